/- slices.Sort at this program: the library's contract in the print's form. -/
import Derived.Test.YtadfcplobidmeaaDoorProg
import Derived.Laws.EntriesVeiled
import Derived.Outline
import Derived.Below
import Derived.Deep.Draws
import Derived.Deep.AppendLies
import Derived.Maps.AppendAt
import Derived.OwnWalk
import Derived.Laws.BytesArg
import Derived.Laws.MakeOwn
import Derived.Laws.OwnMore
import Derived.Deep.OwnRows
import Derived.Tactics
import Derived.Lib.ConvBytes
import Derived.Laws.Slices
import Derived.WalkKit
import Derived.KernelRfl
import Derived.RowKit3
import Derived.Deep.LoopGhost
import Derived.Deep.QuietTactic
import Derived.BigQuiet
import Derived.WideLaws
import Derived.Deep.DeepCutAuto
import Derived.Deep.CutBlock
import Derived.Deep.RegionHeld3
import Derived.Laws.Rows
import Derived.Lib.AppendStr
import Derived.ArgAppend
import Derived.Laws.IdiomCopy
import Derived.OrdersHeld
import Derived.Laws.BitsLemmas
import Derived.RowKit
import Derived.Test.YtadfcplobidmeaaDoorWMore
import Derived.Lib.SlKeysI
import Derived.Shelf.Abstract
import Derived.Test.YtadfcplobidmeaaDoorHandShelf
namespace Go.Proofs.YtadfcplobidmeaaDoor.Print
open Go.RowKit Go.Proofs.YtadfcplobidmeaaDoorW.PrintWords Go.Proofs.YtadfcplobidmeaaDoorW.PrintLast Go.Proofs.YtadfcplobidmeaaDoorW.PrintMore
attribute [local go_sem] max2_int min2_int max_two min_two max_three min_three max_four min_four
set_option linter.unusedVariables false
set_option linter.unusedSimpArgs false
open Go.Shelf Go.Sort
attribute [local go_sem] Oper.semAt_some
theorem rowBlock {w : World} {base : Nat} {v : Value} {xs : List Int} (h : w.ownsRow base 3 1 v xs.length (nums .i64 xs)) (hp : 0 < xs.length) :
    ∃ g cap cur, v = .slice (some ⟨g, 0, none⟩) xs.length cap ∧ base ≤ g ∧ w.heap[g]? = some (.cells cur 3 (0, 0)) ∧ xs.length ≤ cap ∧ cap ≤ maxLen ∧ cur.size = cap * 1 ∧ cur.toList.take xs.length = xs.map (Value.int .i64) := by
  rcases h.2 with ⟨_, h0⟩ | ⟨g, cap, cur, rfl, hb, hh, r1, r2, r3, r4⟩
  · omega
  · exact ⟨g, cap, cur, rfl, hb, hh, r1, r2, r3, by have := r4; rw [Nat.mul_one] at this; exact this⟩
def insI (x : Int) : List Int → List Int
  | [] => [x]
  | y :: ys => if x ≤ y then x :: y :: ys else y :: insI x ys
def isort : List Int → List Int
  | [] => []
  | x :: xs => insI x (isort xs)
theorem insI_perm (x : Int) (l : List Int) : (insI x l).Perm (x :: l) := by
  induction l with
  | nil => exact List.Perm.refl _
  | cons y ys ih =>
    unfold insI
    split
    · exact List.Perm.refl _
    · exact (List.Perm.cons y ih).trans (List.Perm.swap x y ys)
theorem isort_perm (l : List Int) : (isort l).Perm l := by
  induction l with
  | nil => exact List.Perm.refl _
  | cons x xs ih => exact (insI_perm x _).trans (List.Perm.cons x ih)
theorem insI_sorted (x : Int) (l : List Int) (h : l.Pairwise (· ≤ ·)) : (insI x l).Pairwise (· ≤ ·) := by
  induction l with
  | nil => simp [insI]
  | cons y ys ih =>
    unfold insI
    have h2 := List.pairwise_cons.1 h
    split
    · rename_i hxy
      refine List.pairwise_cons.2 ⟨fun z hz => ?_, h⟩
      rcases List.mem_cons.1 hz with rfl | hz
      · exact hxy
      · exact Int.le_trans hxy (h2.1 z hz)
    · rename_i hxy
      refine List.pairwise_cons.2 ⟨fun z hz => ?_, ih h2.2⟩
      rcases List.mem_cons.1 ((insI_perm x ys).mem_iff.1 hz) with rfl | hz
      · omega
      · exact h2.1 z hz
theorem isort_sorted (l : List Int) : (isort l).Pairwise (· ≤ ·) := by
  induction l with
  | nil => exact List.Pairwise.nil
  | cons x xs ih => exact insI_sorted x _ ih
theorem mergeSort_isort (l : List Int) : l.mergeSort (fun x y => decide (x ≤ y)) = isort l := by
  have h1 : (l.mergeSort (fun x y => decide (x ≤ y))).Pairwise (· ≤ ·) := by
    have := List.pairwise_mergeSort (le := fun (x y : Int) => decide (x ≤ y)) (by simp; intro a b c; omega) (by simp; intro a b; omega) l
    simpa using this
  have hp : (l.mergeSort (fun x y => decide (x ≤ y))).Perm (isort l) := (List.mergeSort_perm _ _).trans (isort_perm l).symm
  exact hp.eq_of_pairwise (fun a b _ _ h1 h2 => Int.le_antisymm h1 h2) h1 (isort_sorted l)
/-! ### slices.Sort: function 64 -/
def slices_Sort_int_int.f (l0 : List Int) : Option (List Int) := if l0.length < 4611686018427387904 then some (isort l0) else none
theorem slices_Sort_int_int.calls (P0_ : Nat → Prop) (u9000_ : Value) (l0 : List Int) (r : List Int) (w0 w : World) (hB : Below w0.heap.size w0 w) (ho0 : Kd.R (Kd.int .i64) 3 w w0.heap.size P0_ u9000_ l0) (h : slices_Sort_int_int.f l0 = some r) :
    Calls Tryd.prog 64 #[u9000_] w fun e w' => e = .returned (.tuple #[]) ∧ Kd.R (Kd.int .i64) 3 w' w0.heap.size (fun k_ => (P0_ k_ ∨ w.heap.size ≤ k_)) u9000_ r ∧ Below w0.heap.size w0 w' ∧ Kept w w' (fun k_ => P0_ k_) := by
  unfold slices_Sort_int_int.f at h
  split at h
  case isFalse => cases h
  case isTrue hc =>
  obtain rfl := Option.some.inj h
  have hlen : (isort l0).length = l0.length := (isort_perm l0).length_eq
  by_cases hp : 0 < l0.length
  · obtain ⟨g, cap, cur, rfl, hg, hh, r1, r2, r3, r4⟩ := rowBlock (xs := l0) (Kd.own_of_R ho0) hp
    have hP : P0_ g := ho0.1 g rfl
    refine (Tryd.slices_Sort_int g 0 cap l0 w (holds_of_block_i hh r4) (lt_of_block hh) hc).mono ?_
    rintro e w' ⟨rfl, n, os, rfl⟩
    rw [mergeSort_isort]
    have ho : World.ownsRow (grow (putRow encZ (Sort.ahead w n) g 0 (isort l0).toArray) os) w0.heap.size 3 1 (.slice (some ⟨g, 0, none⟩) l0.length cap) l0.length ((isort l0).map encZ) := ownsRow_sorted_i hlen hg hh r1 r2 r3
    have hgr : w.grownBy (grow (putRow encZ (Sort.ahead w n) g 0 (isort l0).toArray) os) (some g) := grownBy_sorted_i _
    have ho2 : World.ownsRow (grow (putRow encZ (Sort.ahead w n) g 0 (isort l0).toArray) os) w0.heap.size 3 1 (.slice (some ⟨g, 0, none⟩) l0.length cap) (isort l0).length ((isort l0).map encZ) := by
      rw [hlen]
      exact ho
    have hok : ∀ k, (Value.slice (some ⟨g, 0, none⟩) l0.length cap).ownBlock = some k → (P0_ k ∨ w.heap.size ≤ k) := by
      intro k hk
      have e : g = k := by simpa [Value.ownBlock] using hk
      subst e
      exact .inl hP
    have hR : (Kd.int .i64).R 3 (grow (putRow encZ (Sort.ahead w n) g 0 (isort l0).toArray) os) w0.heap.size (fun k_ => (P0_ k_ ∨ w.heap.size ≤ k_)) (.slice (some ⟨g, 0, none⟩) l0.length cap) (isort l0) := Kd.R_of_own ho2 hok
    have hrow : ∀ k, some g = some k → w0.heap.size ≤ k := by
      intro k e
      injection e with e
      omega
    have hrow2 : ∀ k, ¬ P0_ k → some k ≠ some g := by
      intro k hn e
      injection e with e
      subst e
      exact hn hP
    exact ⟨rfl, hR, hB.grown hgr hB.size hrow, ⟨hgr.size, fun k hk hn => hgr.block k hk (hrow2 k hn)⟩⟩
  · have hl0 : l0 = [] := List.eq_nil_of_length_eq_zero (by omega)
    subst hl0
    obtain ⟨A, c, rfl⟩ := Kd.R_slice ho0
    refine (Tryd.slices_Sort_int_none A c w).mono ?_
    rintro e w' ⟨rfl, rfl⟩
    exact ⟨rfl, Kd.R_mono ho0 (fun k hk => .inl hk), hB, ⟨Nat.le_refl _, fun k hk hn => rfl⟩⟩

end Go.Proofs.YtadfcplobidmeaaDoor.Print
