/- slices.Sorted, Delete, Min, Max at this program: the library's contracts in the print's form. -/
import Derived.Test.YtmigibamdeodpaaProg
import Derived.Laws.EntriesVeiled
import Derived.Outline
import Derived.Below
import Derived.Deep.Draws
import Derived.Deep.AppendLies
import Derived.Maps.AppendAt
import Derived.OwnWalk
import Derived.Laws.BytesArg
import Derived.Laws.MakeOwn
import Derived.Laws.OwnMore
import Derived.Deep.OwnRows
import Derived.Tactics
import Derived.Lib.ConvBytes
import Derived.Laws.Slices
import Derived.WalkKit
import Derived.KernelRfl
import Derived.RowKit3
import Derived.Deep.LoopGhost
import Derived.Deep.QuietTactic
import Derived.BigQuiet
import Derived.WideLaws
import Derived.Deep.DeepCutAuto
import Derived.Deep.CutBlock
import Derived.Deep.RegionHeld3
import Derived.Laws.Rows
import Derived.Lib.AppendStr
import Derived.ArgAppend
import Derived.Laws.IdiomCopy
import Derived.OrdersHeld
import Derived.Laws.BitsLemmas
import Derived.RowKit
import Derived.Test.YtmigibamdeodpaaWWords
import Derived.Test.YtmigibamdeodpaaWLast
import Derived.Test.YtmigibamdeodpaaWTab
import Derived.Test.YtmigibamdeodpaaWQPut
import Derived.Test.YtmigibamdeodpaaWApart
import Derived.Test.YtmigibamdeodpaaWArr
import Derived.Test.YtmigibamdeodpaaWZeros
import Derived.Test.YtmigibamdeodpaaWFoot
import Derived.Test.YtmigibamdeodpaaWKept
import Derived.Test.YtmigibamdeodpaaWShare
import Derived.Test.YtmigibamdeodpaaWN
import Derived.Test.YtmigibamdeodpaaWRepsOne
import Derived.Test.YtmigibamdeodpaaWGuard
import Derived.Test.YtmigibamdeodpaaWNEv
import Derived.Test.YtmigibamdeodpaaWMore
import Derived.Lib.SlKeysI
import Derived.Maps.AppendAt
import Derived.RangeFuncBox
import Derived.RangeFuncLeaves
import Derived.RangeFuncNested
import Derived.RangeFuncBound
import Derived.RangeFuncCalls
import Derived.Shelf.Abstract
import Derived.OwnWalkIn
import Derived.TacticsInMore
import Derived.LoopNIn
import Derived.LoopIn
import Derived.OrdersIn
import Derived.Test.YtmigibamdeodpaaHandSort
import Derived.Test.YtmigibamdeodpaaHandShelf
namespace Go.Proofs.Ytmigibamdeodpaa.Print
open Go.RowKit Go.Proofs.YtmigibamdeodpaaW.PrintWords Go.Proofs.YtmigibamdeodpaaW.PrintLast Go.Proofs.YtmigibamdeodpaaW.PrintMore
attribute [local go_sem] max2_int min2_int max_two min_two max_three min_three max_four min_four
set_option linter.unusedVariables false
set_option linter.unusedSimpArgs false
open Go.Shelf
open Go.Shelf Go.Sort
attribute [local go_sem] Oper.semAt_some
theorem rowBlock {w : World} {base : Nat} {v : Value} {xs : List Int} (h : w.ownsRow base 3 1 v xs.length (nums .i64 xs)) (hp : 0 < xs.length) :
    ∃ g cap cur, v = .slice (some ⟨g, 0, none⟩) xs.length cap ∧ base ≤ g ∧ w.heap[g]? = some (.cells cur 3 (0, 0)) ∧ xs.length ≤ cap ∧ cap ≤ maxLen ∧ cur.size = cap * 1 ∧ cur.toList.take xs.length = xs.map (Value.int .i64) := by
  rcases h.2 with ⟨_, h0⟩ | ⟨g, cap, cur, rfl, hb, hh, r1, r2, r3, r4⟩
  · omega
  · exact ⟨g, cap, cur, rfl, hb, hh, r1, r2, r3, by have := r4; rw [Nat.mul_one] at this; exact this⟩
def insI (x : Int) : List Int → List Int
  | [] => [x]
  | y :: ys => if x ≤ y then x :: y :: ys else y :: insI x ys
def isort : List Int → List Int
  | [] => []
  | x :: xs => insI x (isort xs)
theorem insI_perm (x : Int) (l : List Int) : (insI x l).Perm (x :: l) := by
  induction l with
  | nil => exact List.Perm.refl _
  | cons y ys ih =>
    unfold insI
    split
    · exact List.Perm.refl _
    · exact (List.Perm.cons y ih).trans (List.Perm.swap x y ys)
theorem isort_perm (l : List Int) : (isort l).Perm l := by
  induction l with
  | nil => exact List.Perm.refl _
  | cons x xs ih => exact (insI_perm x _).trans (List.Perm.cons x ih)
theorem insI_sorted (x : Int) (l : List Int) (h : l.Pairwise (· ≤ ·)) : (insI x l).Pairwise (· ≤ ·) := by
  induction l with
  | nil => simp [insI]
  | cons y ys ih =>
    unfold insI
    have h2 := List.pairwise_cons.1 h
    split
    · rename_i hxy
      refine List.pairwise_cons.2 ⟨fun z hz => ?_, h⟩
      rcases List.mem_cons.1 hz with rfl | hz
      · exact hxy
      · exact Int.le_trans hxy (h2.1 z hz)
    · rename_i hxy
      refine List.pairwise_cons.2 ⟨fun z hz => ?_, ih h2.2⟩
      rcases List.mem_cons.1 ((insI_perm x ys).mem_iff.1 hz) with rfl | hz
      · omega
      · exact h2.1 z hz
theorem isort_sorted (l : List Int) : (isort l).Pairwise (· ≤ ·) := by
  induction l with
  | nil => exact List.Pairwise.nil
  | cons x xs ih => exact insI_sorted x _ ih
theorem mergeSort_isort (l : List Int) : l.mergeSort (fun x y => decide (x ≤ y)) = isort l := by
  have h1 : (l.mergeSort (fun x y => decide (x ≤ y))).Pairwise (· ≤ ·) := by
    have := List.pairwise_mergeSort (le := fun (x y : Int) => decide (x ≤ y)) (by simp; intro a b c; omega) (by simp; intro a b; omega) l
    simpa using this
  have hp : (l.mergeSort (fun x y => decide (x ≤ y))).Perm (isort l) := (List.mergeSort_perm _ _).trans (isort_perm l).symm
  exact hp.eq_of_pairwise (fun a b _ _ h1 h2 => Int.le_antisymm h1 h2) h1 (isort_sorted l)
set_option maxHeartbeats 2000000 in
theorem sorted_calls (Bs : Nat) (A : Option Addr) (c : Nat) (xs : List Int) (hreach : xs.length * 8 ≤ 140737488355328) (w : World) (hBs : Bs < w.heap.size)
    (hc : w.cell? ⟨Bs, 0, none⟩ = some (.slice A xs.length c)) (hI : IntsT (· < w.heap.size) w A xs) :
    Calls Try.prog 46 #[.func (.func 67) #[] #[.pointer (some ⟨Bs, 0, none⟩)]] w fun e w' => ∃ v, e = .returned v ∧ w'.ownsRow w.heap.size 3 1 v (isort xs).length (nums .i64 (isort xs)) ∧ Below w.heap.size w w' := by
  have h := collect_calls Bs A c xs hreach w hBs hc hI
  have hlen : (isort xs).length = xs.length := (isort_perm xs).length_eq
  clear hc
  by_cases hx : xs = []
  · subst hx
    go_enter Try.func46, Try.ntmps46
    go_wp2_with fail
    refine h.mono ?_
    rintro e w1 ⟨v, rfl, hr, hb⟩
    obtain ⟨A1, c1, rfl⟩ := own_slice hr
    have h2 := Try.slices_Sort_int_none A1 c1 w1
    simp only [List.length_nil] at hr ⊢
    go_wp2_with fail
    refine h2.mono ?_
    rintro e w2 ⟨rfl, rfl⟩
    go_wp2
    go_ret
    exact ⟨_, rfl, hr, hb⟩
  · have hp : 0 < xs.length := List.length_pos_iff.2 hx
    have HL := Aside0.mk hlen
    clear hlen hx
    go_enter Try.func46, Try.ntmps46
    go_wp2_with fail
    refine h.mono ?_
    rintro e w1 ⟨v, rfl, hr, hb⟩
    obtain ⟨g, cap, cur, rfl, hg, hh, r1, r2, r3, r4⟩ := rowBlock hr hp
    have h2 := Try.slices_Sort_int g 0 cap xs w1 (holds_of_block_i hh r4) (lt_of_block hh) (by omega)
    have HH := Aside0.mk hh
    clear r4 hr hh
    go_wp2_with fail
    refine h2.mono ?_
    rintro e w2 ⟨rfl, n, os, rfl⟩
    go_wp2
    go_ret
    rw [mergeSort_isort, HL.out]
    exact ⟨_, rfl, ownsRow_sorted_i HL.out hg HH.out r1 r2 r3, hb.grown (grownBy_sorted_i _) hb.size (fun j hj => by cases hj; exact hg)⟩

/-! ### slices.Delete: function 49 -/
def slices_Delete_int_int.f (l0 : List Int) (a1 : Int) (a2 : Int) : Option (List Int) := if 0 ≤ a1 ∧ a1 ≤ a2 ∧ a2 ≤ l0.length then some (l0.take a1.toNat ++ l0.drop a2.toNat) else none
theorem slices_Delete_int_int.calls (P0_ : Nat → Prop) (u9000_ : Value) (l0 : List Int) (a1 a2 : Int) (r : List Int) (w0 w : World) (hB : Below w0.heap.size w0 w) (ho0 : Kd.R (Kd.int .i64) 3 w w0.heap.size P0_ u9000_ l0) (h : slices_Delete_int_int.f l0 a1 a2 = some r) :
    Calls Try.prog 49 #[u9000_, .int .i64 a1, .int .i64 a2] w fun e w' => ∃ v0_ : Value, e = .returned (v0_) ∧ Kd.R (Kd.int .i64) 3 w' w0.heap.size (fun k_ => (P0_ k_ ∨ w.heap.size ≤ k_)) v0_ r ∧ Below w0.heap.size w0 w' ∧ Kept w w' (fun k_ => P0_ k_) := by
  unfold slices_Delete_int_int.f at h
  split at h
  case isFalse => cases h
  case isTrue hc =>
  obtain ⟨h1, h2, h3⟩ := hc
  obtain ⟨i, rfl⟩ := Int.eq_ofNat_of_zero_le h1
  obtain ⟨j, rfl⟩ := Int.eq_ofNat_of_zero_le (Int.le_trans h1 h2)
  obtain rfl := Option.some.inj h
  rw [Int.toNat_natCast, Int.toNat_natCast]
  have hij : i ≤ j := by omega
  have hj : j ≤ l0.length := by omega
  by_cases hp : 0 < l0.length
  · obtain ⟨g, cap, cur, rfl, hg, hh, r1, r2, r3, r4⟩ := rowBlock (xs := l0) (Kd.own_of_R ho0) hp
    have hP : P0_ g := ho0.1 g rfl
    refine (Try.slices_Delete_int g 0 cap i j l0 w (holds_of_block_i hh r4) r1 r2 hij hj).mono ?_
    rintro e w' ⟨rfl, q, rfl⟩
    have hl : (l0.take i ++ l0.drop j ++ List.replicate (j - i) 0).length = l0.length := by simp; omega
    have ho : World.ownsRow (grow (putRow encZ (Sort.ahead w q) g 0 (l0.take i ++ l0.drop j ++ List.replicate (j - i) 0).toArray) #[]) w0.heap.size 3 1 (.slice (some ⟨g, 0, none⟩) l0.length cap) l0.length ((l0.take i ++ l0.drop j ++ List.replicate (j - i) 0).map encZ) := ownsRow_sorted_i hl hg hh r1 r2 r3
    have hgr : w.grownBy (grow (putRow encZ (Sort.ahead w q) g 0 (l0.take i ++ l0.drop j ++ List.replicate (j - i) 0).toArray) #[]) (some g) := grownBy_sorted_i _
    have ho2 : World.ownsRow (grow (putRow encZ (Sort.ahead w q) g 0 (l0.take i ++ l0.drop j ++ List.replicate (j - i) 0).toArray) #[]) w0.heap.size 3 1 (.slice (some ⟨g, 0, none⟩) (l0.take i ++ l0.drop j ++ List.replicate (j - i) 0).length cap) (l0.take i ++ l0.drop j ++ List.replicate (j - i) 0).length ((l0.take i ++ l0.drop j ++ List.replicate (j - i) 0).map encZ) := by
      rw [hl]
      exact ho
    have hok : ∀ k, (Value.slice (some ⟨g, 0, none⟩) (l0.take i ++ l0.drop j ++ List.replicate (j - i) 0).length cap).ownBlock = some k → (P0_ k ∨ w.heap.size ≤ k) := by
      intro k hk
      have e : g = k := by simpa [Value.ownBlock] using hk
      subst e
      exact .inl hP
    have hR : (Kd.int .i64).R 3 (grow (putRow encZ (Sort.ahead w q) g 0 (l0.take i ++ l0.drop j ++ List.replicate (j - i) 0).toArray) #[]) w0.heap.size (fun k_ => (P0_ k_ ∨ w.heap.size ≤ k_)) (.slice (some ⟨g, 0, none⟩) (l0.take i ++ l0.drop j ++ List.replicate (j - i) 0).length cap) (l0.take i ++ l0.drop j ++ List.replicate (j - i) 0) := Kd.R_of_own ho2 hok
    have hgw : grow (putRow encZ (Sort.ahead w q) g 0 (l0.take i ++ l0.drop j ++ List.replicate (j - i) 0).toArray) #[] = putRow (Value.int .i64) (Sort.ahead w q) g 0 (l0.take i ++ l0.drop j ++ List.replicate (j - i) 0).toArray := by
      exact grow_empty _
    rw [hgw] at hR hgr
    have hT := Kd.R_take (m := l0.length - (j - i)) hR (by rw [hl]; omega)
    have hrow : ∀ k, some g = some k → w0.heap.size ≤ k := by
      intro k e
      injection e with e
      omega
    have hrow2 : ∀ k, ¬ P0_ k → some k ≠ some g := by
      intro k hn e
      injection e with e
      subst e
      exact hn hP
    refine ⟨_, rfl, ?_, hB.grown hgr hB.size hrow, ⟨hgr.size, fun k hk hn => hgr.block k hk (hrow2 k hn)⟩⟩
    have he : (l0.take i ++ l0.drop j ++ List.replicate (j - i) 0).take (l0.length - (j - i)) = l0.take i ++ l0.drop j := by
      rw [List.take_append_of_le_length (by simp; omega), List.take_of_length_le (by simp; omega)]
    rw [he] at hT
    exact hT
  · have hl0 : l0 = [] := List.eq_nil_of_length_eq_zero (by omega)
    subst hl0
    obtain rfl : j = 0 := by simp at hj; exact hj
    obtain rfl : i = 0 := by omega
    obtain ⟨A, c, rfl⟩ := Kd.R_slice ho0
    refine (Try.slices_Delete_int_empty A c w).mono ?_
    rintro e w' ⟨rfl, rfl⟩
    exact ⟨_, rfl, Kd.R_mono ho0 (fun _ hk => .inl hk), hB, Kept.refl _ _⟩

/-! ### slices.Min, slices.Max: functions 70, 71 -/
/-! ### slices.Sorted(slices.Values(l)): functions 47, 46 in a row -/
def sortedValues.f (l0 : List Int) : Option (List Int) := if l0.length ≤ 1000000 then some (isort l0) else none
theorem sortedValues.calls (A0 : Option Addr) (c0 : Nat) (l0 : List Int) (r : List Int) (w : World) (hr0 : Kd.C (Kd.int .i64) w A0 l0.length l0) (hc0 : l0.length ≤ c0) (h : sortedValues.f l0 = some r) :
    Calls Try.prog 46 #[.func (.func 67) #[] #[.pointer (some ⟨w.heap.size, 0, none⟩)]] (w.alloc (.cells #[.slice A0 l0.length c0] 27)) fun e w' => ∃ v0_ : Value, e = .returned (v0_) ∧ Kd.R (Kd.int .i64) 3 w' w.heap.size (fun _ => True) v0_ r ∧ Below w.heap.size w w' := by
  unfold sortedValues.f at h
  split at h
  case isFalse => cases h
  case isTrue hl =>
  obtain rfl := Option.some.inj h
  have hb0 : Below w.heap.size w (w.alloc (.cells #[.slice A0 l0.length c0] 27)) := (Below.refl _ w).alloc (Nat.le_refl _) _
  have hs0 : (w.alloc (.cells #[.slice A0 l0.length c0] 27)).heap.size = w.heap.size + 1 := by simp
  refine (sorted_calls w.heap.size A0 c0 l0 (by omega) _ (by omega) (cell_of_one (heap_new1 _ _)) ?_).mono ?_
  · exact (IntsT.keep (T := fun k => k < w.heap.size) (IntsT.of_C hr0 rfl (fun k hk => hk)) (KeepT.of_below (fun _ h => h) hb0)).mono (fun k hk => by omega)
  · rintro e w' ⟨v, rfl, hr, hb⟩
    exact ⟨v, rfl, Kd.R_lower (Kd.R_of_own hr (fun _ _ => trivial)) (by omega), below_then hb0 (by omega) hb⟩
section
variable {ops : Array Oper} {Q : Exit → Act → World → Prop}
theorem svL_ {rest : List Oper} {o1 o2 : Oper} {a : Act} {w : World} {N1 : Tmp} (hd1 : o1.dst = some N1) (hg1 : o1.guard = none) (hg2 : o2.guard = none) {x : Operand} {ts1 ts2 : Array TypeId} {A : Option Addr} {n c : Nat}
    (hop1 : o1.op = .call { callee := .value (.func 47), args := #[x], argTypes := ts1 }) (hop2 : o2.op = .call { callee := .value (.func 46), args := #[.tmp N1], argTypes := ts2 }) (hN : N1 < a.tmps.size) (hx : a.eval x = .slice A n c)
    (h : Calls Try.prog 46 #[.func (.func 67) #[] #[.pointer (some ⟨w.heap.size, 0, none⟩)]] (w.alloc (.cells #[.slice A n c] 27)) fun e w' => ∃ v, e = .returned v ∧ wpList Try.prog ops Q rest ((a.put (some N1) (.func (.func 67) #[] #[.pointer (some ⟨w.heap.size, 0, none⟩)])).put o2.dst v) w') :
    wpList Try.prog ops Q (o1 :: o2 :: rest) a w := by
  refine goesL_ (some N1) hd1 hg1 Try.func47 (by kernel_rfl) rfl #[.slice A n c] hop1 (by simp [hx]) ?_
  refine (values_calls A n c w).mono ?_
  rintro e w1 ⟨rfl, rfl⟩
  refine ⟨_, rfl, ?_⟩
  exact goesL_ o2.dst rfl hg2 Try.func46 (by kernel_rfl) rfl _ hop2 (by simp [Act.eval, Act.put, hN]) h
end

end Go.Proofs.Ytmigibamdeodpaa.Print
