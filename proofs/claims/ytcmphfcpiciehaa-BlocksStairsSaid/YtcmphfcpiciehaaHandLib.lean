/- slices.Sort and DeleteFunc at this program: the library's contracts in the print's form. -/
import Derived.Test.YtcmphfcpiciehaaProg
import Derived.Laws.EntriesVeiled
import Derived.Outline
import Derived.Below
import Derived.Deep.Draws
import Derived.Deep.AppendLies
import Derived.Maps.AppendAt
import Derived.OwnWalk
import Derived.Laws.BytesArg
import Derived.Laws.MakeOwn
import Derived.Laws.OwnMore
import Derived.Deep.OwnRows
import Derived.Tactics
import Derived.Lib.ConvBytes
import Derived.Laws.Slices
import Derived.WalkKit
import Derived.KernelRfl
import Derived.RowKit3
import Derived.Deep.LoopGhost
import Derived.Deep.QuietTactic
import Derived.BigQuiet
import Derived.WideLaws
import Derived.Deep.DeepCutAuto
import Derived.Deep.CutBlock
import Derived.Deep.RegionHeld3
import Derived.Laws.Rows
import Derived.Lib.AppendStr
import Derived.ArgAppend
import Derived.Laws.IdiomCopy
import Derived.OrdersHeld
import Derived.Laws.BitsLemmas
import Derived.RowKit
import Derived.Test.YtcmphfcpiciehaaWMore
import Derived.Lib.SlKeysI
import Derived.Shelf.Abstract
import Derived.Test.YtcmphfcpiciehaaHandTotal
import Derived.Test.YtcmphfcpiciehaaHandShelf
namespace Go.Proofs.Ytcmphfcpiciehaa.Print
open Go.RowKit Go.Proofs.YtcmphfcpiciehaaW.PrintWords Go.Proofs.YtcmphfcpiciehaaW.PrintLast Go.Proofs.YtcmphfcpiciehaaW.PrintMore
attribute [local go_sem] max2_int min2_int max_two min_two max_three min_three max_four min_four
set_option linter.unusedVariables false
set_option linter.unusedSimpArgs false
open Go.Shelf Go.Sort
attribute [local go_sem] Oper.semAt_some
theorem rowBlock {w : World} {base : Nat} {v : Value} {xs : List Int} (h : w.ownsRow base 3 1 v xs.length (nums .i64 xs)) (hp : 0 < xs.length) :
    ∃ g cap cur, v = .slice (some ⟨g, 0, none⟩) xs.length cap ∧ base ≤ g ∧ w.heap[g]? = some (.cells cur 3 (0, 0)) ∧ xs.length ≤ cap ∧ cap ≤ maxLen ∧ cur.size = cap * 1 ∧ cur.toList.take xs.length = xs.map (Value.int .i64) := by
  rcases h.2 with ⟨_, h0⟩ | ⟨g, cap, cur, rfl, hb, hh, r1, r2, r3, r4⟩
  · omega
  · exact ⟨g, cap, cur, rfl, hb, hh, r1, r2, r3, by have := r4; rw [Nat.mul_one] at this; exact this⟩
def insI (x : Int) : List Int → List Int
  | [] => [x]
  | y :: ys => if x ≤ y then x :: y :: ys else y :: insI x ys
def isort : List Int → List Int
  | [] => []
  | x :: xs => insI x (isort xs)
theorem insI_perm (x : Int) (l : List Int) : (insI x l).Perm (x :: l) := by
  induction l with
  | nil => exact List.Perm.refl _
  | cons y ys ih =>
    unfold insI
    split
    · exact List.Perm.refl _
    · exact (List.Perm.cons y ih).trans (List.Perm.swap x y ys)
theorem isort_perm (l : List Int) : (isort l).Perm l := by
  induction l with
  | nil => exact List.Perm.refl _
  | cons x xs ih => exact (insI_perm x _).trans (List.Perm.cons x ih)
theorem insI_sorted (x : Int) (l : List Int) (h : l.Pairwise (· ≤ ·)) : (insI x l).Pairwise (· ≤ ·) := by
  induction l with
  | nil => simp [insI]
  | cons y ys ih =>
    unfold insI
    have h2 := List.pairwise_cons.1 h
    split
    · rename_i hxy
      refine List.pairwise_cons.2 ⟨fun z hz => ?_, h⟩
      rcases List.mem_cons.1 hz with rfl | hz
      · exact hxy
      · exact Int.le_trans hxy (h2.1 z hz)
    · rename_i hxy
      refine List.pairwise_cons.2 ⟨fun z hz => ?_, ih h2.2⟩
      rcases List.mem_cons.1 ((insI_perm x ys).mem_iff.1 hz) with rfl | hz
      · omega
      · exact h2.1 z hz
theorem isort_sorted (l : List Int) : (isort l).Pairwise (· ≤ ·) := by
  induction l with
  | nil => exact List.Pairwise.nil
  | cons x xs ih => exact insI_sorted x _ ih
theorem mergeSort_isort (l : List Int) : l.mergeSort (fun x y => decide (x ≤ y)) = isort l := by
  have h1 : (l.mergeSort (fun x y => decide (x ≤ y))).Pairwise (· ≤ ·) := by
    have := List.pairwise_mergeSort (le := fun (x y : Int) => decide (x ≤ y)) (by simp; intro a b c; omega) (by simp; intro a b; omega) l
    simpa using this
  have hp : (l.mergeSort (fun x y => decide (x ≤ y))).Perm (isort l) := (List.mergeSort_perm _ _).trans (isort_perm l).symm
  exact hp.eq_of_pairwise (fun a b _ _ h1 h2 => Int.le_antisymm h1 h2) h1 (isort_sorted l)
/-! ### slices.Sort: function 70 -/
def slices_Sort_int_int.f (l0 : List Int) : Option (List Int) := if l0.length < 4611686018427387904 then some (isort l0) else none
theorem slices_Sort_int_int.calls (P0_ : Nat → Prop) (u9000_ : Value) (l0 : List Int) (r : List Int) (w0 w : World) (hB : Below w0.heap.size w0 w) (ho0 : Kd.R (Kd.int .i64) 3 w w0.heap.size P0_ u9000_ l0) (h : slices_Sort_int_int.f l0 = some r) :
    Calls Try.prog 70 #[u9000_] w fun e w' => e = .returned (.tuple #[]) ∧ Kd.R (Kd.int .i64) 3 w' w0.heap.size (fun k_ => (P0_ k_ ∨ w.heap.size ≤ k_)) u9000_ r ∧ Below w0.heap.size w0 w' ∧ Kept w w' (fun k_ => P0_ k_) := by
  unfold slices_Sort_int_int.f at h
  split at h
  case isFalse => cases h
  case isTrue hc =>
  obtain rfl := Option.some.inj h
  have hlen : (isort l0).length = l0.length := (isort_perm l0).length_eq
  by_cases hp : 0 < l0.length
  · obtain ⟨g, cap, cur, rfl, hg, hh, r1, r2, r3, r4⟩ := rowBlock (xs := l0) (Kd.own_of_R ho0) hp
    have hP : P0_ g := ho0.1 g rfl
    refine (Try.slices_Sort_int g 0 cap l0 w (holds_of_block_i hh r4) (lt_of_block hh) hc).mono ?_
    rintro e w' ⟨rfl, n, os, rfl⟩
    rw [mergeSort_isort]
    have ho : World.ownsRow (grow (putRow encZ (Sort.ahead w n) g 0 (isort l0).toArray) os) w0.heap.size 3 1 (.slice (some ⟨g, 0, none⟩) l0.length cap) l0.length ((isort l0).map encZ) := ownsRow_sorted_i hlen hg hh r1 r2 r3
    have hgr : w.grownBy (grow (putRow encZ (Sort.ahead w n) g 0 (isort l0).toArray) os) (some g) := grownBy_sorted_i _
    have ho2 : World.ownsRow (grow (putRow encZ (Sort.ahead w n) g 0 (isort l0).toArray) os) w0.heap.size 3 1 (.slice (some ⟨g, 0, none⟩) l0.length cap) (isort l0).length ((isort l0).map encZ) := by
      rw [hlen]
      exact ho
    have hok : ∀ k, (Value.slice (some ⟨g, 0, none⟩) l0.length cap).ownBlock = some k → (P0_ k ∨ w.heap.size ≤ k) := by
      intro k hk
      have e : g = k := by simpa [Value.ownBlock] using hk
      subst e
      exact .inl hP
    have hR : (Kd.int .i64).R 3 (grow (putRow encZ (Sort.ahead w n) g 0 (isort l0).toArray) os) w0.heap.size (fun k_ => (P0_ k_ ∨ w.heap.size ≤ k_)) (.slice (some ⟨g, 0, none⟩) l0.length cap) (isort l0) := Kd.R_of_own ho2 hok
    have hrow : ∀ k, some g = some k → w0.heap.size ≤ k := by
      intro k e
      injection e with e
      omega
    have hrow2 : ∀ k, ¬ P0_ k → some k ≠ some g := by
      intro k hn e
      injection e with e
      subst e
      exact hn hP
    exact ⟨rfl, hR, hB.grown hgr hB.size hrow, ⟨hgr.size, fun k hk hn => hgr.block k hk (hrow2 k hn)⟩⟩
  · have hl0 : l0 = [] := List.eq_nil_of_length_eq_zero (by omega)
    subst hl0
    obtain ⟨A, c, rfl⟩ := Kd.R_slice ho0
    refine (Try.slices_Sort_int_none A c w).mono ?_
    rintro e w' ⟨rfl, rfl⟩
    exact ⟨rfl, Kd.R_mono ho0 (fun k hk => .inl hk), hB, ⟨Nat.le_refl _, fun k hk hn => rfl⟩⟩
/-! ### slices.DeleteFunc(l, func(x int) bool { return x == 0 }): function 72 -/
theorem isZero_gives (x : Int) (W : World) : FnGives Try.prog 73 #[] #[.int .i64 x] (.bool (x == 0)) W := by
  show Calls Try.prog 73 #[.int .i64 x] W _
  go_enter Try.func73, Try.ntmps73
  go_wp2
  all_goals (go_ret; exact ⟨by first | rfl | simp_all, 0, rfl⟩)
theorem zero_pred (w : World) : PredAt Try.prog 73 #[] (Value.int .i64) (fun x => x == 0) w := fun W x _ => isZero_gives x W
theorem zero_over (blk off size : Nat) (w : World) : PredOver Try.prog 73 #[] (Value.int .i64) (fun x => x == 0) blk off size w := fun n os dk x _ => isZero_gives x _
theorem deleteFunc_int (blk off cap : Nat) (d : Array Int) (w : World) (hH : Holds (Value.int .i64) w blk off d) (hsz : d.size ≤ 9223372036854775807) (hcap : d.size ≤ cap) :
    Calls Try.prog 72 #[.slice (some ⟨blk, off, none⟩) d.size cap, .func (.func 73) #[] #[]] w fun e w' => e = .returned (.slice (some ⟨blk, off, none⟩) (d.toList.filter fun x => !(x == 0)).length cap) ∧
      ∃ q, w' = putRow (Value.int .i64) (Sort.ahead w q) blk off ((d.toList.filter fun x => !(x == 0)) ++ List.replicate (d.size - (d.toList.filter fun x => !(x == 0)).length) 0).toArray := by
  have eg : ∀ args w, (callFunc 73 args).run Try.prog w = .ok (.enter 73 args) w := enters_of Try.func73 (by kernel_rfl) rfl
  exact AnyE.slices_DeleteFunc Try.laysDF (Value.int .i64) (fun _ => rfl) (fun x => x == 0) 73 #[] eg 0 Try.zeroValue3 blk off cap d w (zero_pred w) (zero_over blk off d.size w) hH hsz hcap
/-- The list without noughts. -/
def nz (l : List Int) : List Int := l.filter fun x => !(x == 0)
theorem nz_le (l : List Int) : (nz l).length ≤ l.length := List.length_filter_le _ _
theorem indexFunc_empty (A : Option Addr) (c : Nat) (v : Value) (w : World) : Calls Try.prog 82 #[.slice A 0 c, v] w fun e w' => e = .returned (.int .i64 (-1)) ∧ Drawn0 w w' := by
  go_enter Try.func82, Try.ntmps82
  go_wp2
  go_loopg [8] 1 (fun kq v8 w' => v8 = .int .i64 0 ∧ Drawn0 w w')
  case atStart => exact ⟨rfl, by repeat (first | exact Drawn0.refl _ | apply Drawn0.step)⟩
  case round =>
    obtain ⟨rfl, ⟨m1, rfl⟩⟩ := hrel
    go_wp2
    go_ret
    exact ⟨rfl, by repeat (first | exact Drawn0.refl _ | apply Drawn0.step)⟩
def slices_DeleteFunc_int_int.f (l0 : List Int) : Option (List Int) := if l0.length ≤ 9223372036854775807 then some (nz l0) else none
set_option maxHeartbeats 2000000 in
theorem slices_DeleteFunc_int_int.calls (P0_ : Nat → Prop) (u9000_ : Value) (l0 : List Int) (r : List Int) (w0 w : World) (hB : Below w0.heap.size w0 w) (ho0 : Kd.R (Kd.int .i64) 3 w w0.heap.size P0_ u9000_ l0) (h : slices_DeleteFunc_int_int.f l0 = some r) :
    Calls Try.prog 72 #[u9000_, .func (.func 73) #[] #[]] w fun e w' => ∃ v0_ : Value, e = .returned (v0_) ∧ Kd.R (Kd.int .i64) 3 w' w0.heap.size (fun k_ => (P0_ k_ ∨ w.heap.size ≤ k_)) v0_ r ∧ Below w0.heap.size w0 w' ∧ Kept w w' (fun k_ => P0_ k_) := by
  unfold slices_DeleteFunc_int_int.f at h
  split at h
  case isFalse => cases h
  case isTrue hc =>
  obtain rfl := Option.some.inj h
  by_cases hp : 0 < l0.length
  · obtain ⟨g, cap, cur, rfl, hg, hh, r1, r2, r3, r4⟩ := rowBlock (xs := l0) (Kd.own_of_R ho0) hp
    have hP : P0_ g := ho0.1 g rfl
    have hd := deleteFunc_int g 0 cap l0.toArray w (holds_of_block_i hh r4) (by simpa using hc) (by simpa using r1)
    have hd : Calls Try.prog 72 #[.slice (some ⟨g, 0, none⟩) l0.length cap, .func (.func 73) #[] #[]] w fun e w' => e = .returned (.slice (some ⟨g, 0, none⟩) (nz l0).length cap) ∧ ∃ q, w' = putRow (Value.int .i64) (Sort.ahead w q) g 0 (nz l0 ++ List.replicate (l0.length - (nz l0).length) 0).toArray := hd
    refine hd.mono ?_
    rintro e w' ⟨rfl, q, rfl⟩
    have hle := nz_le l0
    generalize hz : nz l0 ++ List.replicate (l0.length - (nz l0).length) 0 = zs
    have hl : zs.length = l0.length := by rw [← hz]; simp; omega
    have ho : World.ownsRow (grow (putRow encZ (Sort.ahead w q) g 0 zs.toArray) #[]) w0.heap.size 3 1 (.slice (some ⟨g, 0, none⟩) l0.length cap) l0.length (zs.map encZ) := ownsRow_sorted_i hl hg hh r1 r2 r3
    have hgr : w.grownBy (grow (putRow encZ (Sort.ahead w q) g 0 zs.toArray) #[]) (some g) := grownBy_sorted_i _
    have ho2 : World.ownsRow (grow (putRow encZ (Sort.ahead w q) g 0 zs.toArray) #[]) w0.heap.size 3 1 (.slice (some ⟨g, 0, none⟩) zs.length cap) zs.length (zs.map encZ) := by
      rw [hl]
      exact ho
    have hok : ∀ k, (Value.slice (some ⟨g, 0, none⟩) zs.length cap).ownBlock = some k → (P0_ k ∨ w.heap.size ≤ k) := by
      intro k hk
      have e : g = k := by simpa [Value.ownBlock] using hk
      subst e
      exact .inl hP
    have hR : (Kd.int .i64).R 3 (grow (putRow encZ (Sort.ahead w q) g 0 zs.toArray) #[]) w0.heap.size (fun k_ => (P0_ k_ ∨ w.heap.size ≤ k_)) (.slice (some ⟨g, 0, none⟩) zs.length cap) zs := Kd.R_of_own ho2 hok
    have hgw : grow (putRow encZ (Sort.ahead w q) g 0 zs.toArray) #[] = putRow (Value.int .i64) (Sort.ahead w q) g 0 zs.toArray := grow_empty _
    rw [hgw] at hR hgr
    have hT := Kd.R_take (m := (nz l0).length) hR (by rw [hl]; omega)
    have hrow : ∀ k, some g = some k → w0.heap.size ≤ k := by
      intro k e
      injection e with e
      omega
    have hrow2 : ∀ k, ¬ P0_ k → some k ≠ some g := by
      intro k hn e
      injection e with e
      subst e
      exact hn hP
    refine ⟨_, rfl, ?_, hB.grown hgr hB.size hrow, ⟨hgr.size, fun k hk hn => hgr.block k hk (hrow2 k hn)⟩⟩
    have he : zs.take (nz l0).length = nz l0 := by rw [← hz]; simp
    rw [he] at hT
    exact hT
  · have hl0 : l0 = [] := List.eq_nil_of_length_eq_zero (by omega)
    subst hl0
    obtain ⟨A, c, rfl⟩ := Kd.R_slice ho0
    have hi := indexFunc_empty A c (.func (.func 73) #[] #[])
    have HO := Aside0.mk ho0
    have HB := Aside0.mk hB
    clear ho0 hB
    go_enter Try.func72, Try.ntmps72
    go_wp2_with (first | (go_at_call 82; refine (hi _).mono ?_; rintro e w' ⟨rfl, ⟨nd, rfl⟩⟩) | ((with_reducible refine gate_callee (f := 82) rfl ?_); refine goesL_ (some 10) rfl rfl Try.func82 (by kernel_rfl) rfl #[.slice A 0 c, .func (.func 73) #[] #[]] rfl (by (try simp only [List.map_toArray, List.map_cons, List.map_nil]); first | done | rfl) ?_; refine (hi _).mono ?_; rintro e w' ⟨rfl, ⟨nd, rfl⟩⟩; refine ⟨_, rfl, ?_⟩))
    go_ret
    exact ⟨_, rfl, Kd.R_drewN (Kd.R_mono HO.out (fun k hk => .inl hk)) _, by repeat (first | exact HB.out | apply pw_below_drewN | apply below_drew1), ⟨Nat.le_refl _, fun k hk hn => rfl⟩⟩
/-! ### a slice against nil -/
theorem eqNil_none (n c : Nat) (w : World) : (binOp BinOp.eql 22 (.slice none n c) (.slice none 0 0)).run Try.prog w = .ok (.bool true) w := by
  have h : ∀ d : Nat, (Op.equalIn (d + 1) 22 (.slice none n c) (.slice none 0 0)).run Try.prog w = .ok true w := fun d => by
    simp [Op.equalIn, run_underlying Try.underlying22]
  simp only [binOp]
  simp [Op.equal, Op.maxDepth, h 9999]
theorem eqNil_some (a : Addr) (n c : Nat) (w : World) : (binOp BinOp.eql 22 (.slice (some a) n c) (.slice none 0 0)).run Try.prog w = .ok (.bool false) w := by
  have h : ∀ d : Nat, (Op.equalIn (d + 1) 22 (.slice (some a) n c) (.slice none 0 0)).run Try.prog w = .ok false w := fun d => by
    simp [Op.equalIn, run_underlying Try.underlying22]
  simp only [binOp]
  simp [Op.equal, Op.maxDepth, h 9999]

end Go.Proofs.Ytcmphfcpiciehaa.Print
