/- slices.Values, AppendSeq, Collect, Sorted, by hand. -/
import Derived.Test.YtmigibamdeodpaaProg
import Derived.Laws.EntriesVeiled
import Derived.Outline
import Derived.Below
import Derived.Deep.Draws
import Derived.Deep.AppendLies
import Derived.Maps.AppendAt
import Derived.OwnWalk
import Derived.Laws.BytesArg
import Derived.Laws.MakeOwn
import Derived.Laws.OwnMore
import Derived.Deep.OwnRows
import Derived.Tactics
import Derived.Lib.ConvBytes
import Derived.Laws.Slices
import Derived.WalkKit
import Derived.KernelRfl
import Derived.RowKit3
import Derived.Deep.LoopGhost
import Derived.Deep.QuietTactic
import Derived.BigQuiet
import Derived.WideLaws
import Derived.Deep.DeepCutAuto
import Derived.Deep.CutBlock
import Derived.Deep.RegionHeld3
import Derived.Laws.Rows
import Derived.Lib.AppendStr
import Derived.ArgAppend
import Derived.Laws.IdiomCopy
import Derived.OrdersHeld
import Derived.Laws.BitsLemmas
import Derived.RowKit
import Derived.Test.YtmigibamdeodpaaWWords
import Derived.Test.YtmigibamdeodpaaWLast
import Derived.Test.YtmigibamdeodpaaWTab
import Derived.Test.YtmigibamdeodpaaWQPut
import Derived.Test.YtmigibamdeodpaaWApart
import Derived.Test.YtmigibamdeodpaaWArr
import Derived.Test.YtmigibamdeodpaaWZeros
import Derived.Test.YtmigibamdeodpaaWFoot
import Derived.Test.YtmigibamdeodpaaWKept
import Derived.Test.YtmigibamdeodpaaWShare
import Derived.Test.YtmigibamdeodpaaWN
import Derived.Test.YtmigibamdeodpaaWRepsOne
import Derived.Test.YtmigibamdeodpaaWGuard
import Derived.Test.YtmigibamdeodpaaWNEv
import Derived.Test.YtmigibamdeodpaaWMore
import Derived.RangeFuncBox
import Derived.RangeFuncLeaves
import Derived.RangeFuncNested
import Derived.RangeFuncBound
import Derived.RangeFuncCalls
import Derived.Shelf.Abstract
import Derived.OwnWalkIn
import Derived.TacticsInMore
import Derived.LoopNIn
import Derived.LoopIn
import Derived.OrdersIn
import Derived.Test.YtmigibamdeodpaaHandTri
namespace Go.Proofs.Ytmigibamdeodpaa.Print
open Go.RowKit Go.Proofs.YtmigibamdeodpaaW.PrintWords Go.Proofs.YtmigibamdeodpaaW.PrintLast Go.Proofs.YtmigibamdeodpaaW.PrintMore
attribute [local go_sem] max2_int min2_int max_two min_two max_three min_three max_four min_four
set_option linter.unusedVariables false
set_option linter.unusedSimpArgs false
open Go.Shelf
attribute [local go_sem] Oper.semAt_some

/-! ### slices.Values: functions 47, 67 -/
def fwdP (xs : List Int) (k : Nat) : List Int := (List.range k).map fun (j : Nat) => rd xs (j : Int)
theorem fwdP_succ (xs : List Int) (k : Nat) : fwdP xs (k + 1) = fwdP xs k ++ [rd xs (k : Int)] := by simp [fwdP, List.range_succ]
theorem fwdP_length (xs : List Int) (k : Nat) : (fwdP xs k).length = k := by simp [fwdP]
theorem fwdP_all (xs : List Int) : fwdP xs xs.length = xs := by
  apply List.ext_getElem
  · simp [fwdP]
  · intro i h1 h2
    simp [fwdP, rd, List.getD_eq_getElem?_getD, List.getElem?_eq_getElem h2]
set_option maxRecDepth 100000 in
set_option maxHeartbeats 2000000 in
theorem values1_in (n : Nat) (hn : 1 ≤ n) (l Bs : Nat) (T : Nat → Prop) (A : Option Addr) (c : Nat) (xs : List Int) (hreach : xs.length ≤ 9223372036854775807) (hBs : T Bs) (J Jx : List Int → World → Prop)
    (hY : ∀ pre x W, J pre W → pre.length < xs.length → YieldAt Fence.wide (n - 1) Try.prog l #[.int .i64 x] W fun e W' =>
      (e = .returned (.bool true) ∧ J (pre ++ [x]) W' ∧ KeepT T W W') ∨ (e = .returned (.bool false) ∧ Jx (pre ++ [x]) W'))
    (W : World) (hS : W.cell? ⟨Bs, 0, none⟩ = some (.slice A xs.length c)) (hC : IntsT T W A xs) (h0 : J [] W) :
    CallsIn Fence.wide n Try.prog 67 #[.func (.yield l) #[] #[], .pointer (some ⟨Bs, 0, none⟩)] W fun e W' => (∃ v, e = .returned v) ∧
      ((∃ ys, ys = fwdP xs xs.length ∧ J ys W') ∨ (∃ pre, (∃ k, k ≤ xs.length ∧ pre = fwdP xs k) ∧ Jx pre W')) := by
  refine callsIn_of_wp Try.func67 rfl trivial ?_ rfl
  simp only [Try.ntmps67, List.size_toArray, List.length_cons, List.length_nil, Nat.reduceAdd, Nat.reduceSub, Array.replicate_succ, Array.replicate_zero, List.push_toArray, List.append_toArray, List.nil_append, List.cons_append]
  gi_wp2
  gi_loopw [7] (fun i wr => ∃ k : Nat, k ≤ xs.length ∧ i = .int .i64 k ∧ J (fwdP xs k) wr ∧ KeepT T W wr)
    (fun i _ => xs.length - (intOf i).toNat)
  case atStart => exact ⟨0, Nat.zero_le _, rfl, h0, KeepT.refl _ _⟩
  case round =>
    obtain ⟨k, hk, rfl, hJs, hnx⟩ := hrel
    by_cases hlt : k < xs.length
    · obtain ⟨ad, rfl, had, hcx⟩ := (hC.keep hnx) (k : Int) (by omega) (by omega)
      rw [Int.toNat_natCast] at hcx
      obtain ⟨fn, tmps, assign, body, hy, hR⟩ := hY _ (rd xs k) wr hJs (by rw [fwdP_length]; exact hlt)
      gi_wp2
      refine hR.mono ?_
      rintro e W3 (⟨rfl, hJ3, hk3⟩ | ⟨rfl, hJx3⟩)
      · gi_wp2
        go_roundw
        case rel => exact ⟨k + 1, by omega, by simp, by rw [fwdP_succ]; exact hJ3, hnx.trans hk3⟩
        case measure => simp [intOf]; omega
      · gi_wp2
        refine bodyPost_ret (results_none rfl _ _ _) rfl ?_
        exact ⟨⟨_, rfl⟩, .inr ⟨_, ⟨k + 1, by omega, by rw [fwdP_succ]⟩, hJx3⟩⟩
    · obtain rfl : k = xs.length := by omega
      gi_wp2
      go_end0
      exact ⟨⟨_, rfl⟩, .inl ⟨_, rfl, hJs⟩⟩
set_option maxHeartbeats 1000000 in
theorem values_calls (A : Option Addr) (len c : Nat) (w : World) :
    Calls Try.prog 47 #[.slice A len c] w fun e w' => e = .returned (.func (.func 67) #[] #[.pointer (some ⟨w.heap.size, 0, none⟩)]) ∧ w' = w.alloc (.cells #[.slice A len c] 27) := by
  go_enter Try.func47, Try.ntmps47
  go_wp2
  go_ret
  exact ⟨rfl, rfl⟩
theorem values_stops (n : Nat) (hn : 1 ≤ n) (Bs : Nat) (T : Nat → Prop) (A : Option Addr) (c : Nat) (xs : List Int) (hreach : xs.length ≤ 9223372036854775807) (w : World) (hBs : T Bs) (hT : ∀ k, T k → k < w.heap.size)
    (hc : w.cell? ⟨Bs, 0, none⟩ = some (.slice A xs.length c)) (hI : IntsT T w A xs) :
    SeqStopsK Fence.wide n Try.prog 67 #[.pointer (some ⟨Bs, 0, none⟩)] (fun x : Int => #[Value.int .i64 x]) (KeepT T) (fun ys => ys = fwdP xs xs.length) (fun pre => ∃ k, k ≤ xs.length ∧ pre = fwdP xs k) xs.length w := fun l J Jx W hW _ _ hY h0 =>
  values1_in n hn l Bs T A c xs hreach hBs J Jx hY W ((hW.cell (p := ⟨Bs, 0, none⟩) (hT _ hBs)).trans hc) (hI.keep (KeepT.of_below hT hW)) h0

/-! ### slices.AppendSeq, Collect, Sorted: functions 73, 65, 46 -/
set_option maxRecDepth 100000 in
set_option maxHeartbeats 2000000 in
theorem appendSeq_calls (Bs : Nat) (A : Option Addr) (c : Nat) (xs : List Int) (hreach : xs.length * 8 ≤ 140737488355328) (w : World) (hBs : Bs < w.heap.size)
    (hc : w.cell? ⟨Bs, 0, none⟩ = some (.slice A xs.length c)) (hI : IntsT (· < w.heap.size) w A xs) :
    Calls Try.prog 73 #[.slice none 0 0, .func (.func 67) #[] #[.pointer (some ⟨Bs, 0, none⟩)]] w fun e w' => ∃ v, e = .returned v ∧ w'.ownsRow w.heap.size 3 1 v xs.length (nums .i64 xs) ∧ Below w.heap.size w w' := by
  obtain ⟨i0, hi, hz0, hz1, hz2⟩ := info_parts hinfo3
  refine (callsIn_wide (n := 10)).1 ?_
  refine callsIn_of_wp_marks Try.func73 rfl trivial ?_ rfl
  simp only [Try.ntmps73, List.size_toArray, List.length_cons, List.length_nil, Nat.reduceAdd, Nat.reduceSub, Array.replicate_succ, Array.replicate_zero, List.push_toArray, List.append_toArray, List.nil_append, List.cons_append]
  gi_wp2
  have bO := Boxed.new w 27 (.slice none 0 0)
  have hB0 : Below w.heap.size w (w.alloc (.cells #[.slice none 0 0] 27)) := (Below.refl _ w).alloc (Nat.le_refl _) _
  have hs0 : (w.alloc (.cells #[.slice none 0 0] 27)).heap.size = w.heap.size + 1 := by simp
  generalize (w.alloc (.cells #[.slice none 0 0] 27)) = W0 at bO hB0 hs0 ⊢
  refine wpIn_rangeFunc_ownG (F := Fence.wide) (P := Try.prog) rfl (by omega) (gf := 67) (lb := #[.pointer (some ⟨Bs, 0, none⟩)]) rfl trivial (enters_of Try.func67 (by kernel_rfl) rfl)
    (values_stops 9 (by omega) Bs (· < w.heap.size) A c xs (by omega) W0 hBs (fun k hk => by omega) ((hB0.cell (p := ⟨Bs, 0, none⟩) hBs).trans hc) (hI.keep (KeepT.of_below (fun _ h => h) hB0))) (fun h k => h.trans k) (KeepT.put (fun k hk => by omega)) (Below.refl _ _) (fun _ => rfl)
    (fun pre W => (∃ v, Boxed W w.heap.size 27 v ∧ W.ownsRow w.heap.size 3 1 v pre.length (nums .i64 pre) ∧ True) ∧ Below w.heap.size w W)
    (fun _ _ _ => False)
    (OwnFrom.and (Own.from (holdsRow_own w.heap.size w.heap.size 27 3 1 (fun pre => pre.length) (fun pre => nums .i64 pre) (fun _ _ => True)) _) (ownFrom_below (Nat.le_refl _) (by omega)))
    (fun _ _ _ _ _ hs _ _ => hs.elim) ⟨⟨_, bO, World.ownsRow_nil _ _ _ _, trivial⟩, hB0⟩
    (fun x => { tmps := #[.slice none 0 0, .func (.func 67) #[] #[.pointer (some ⟨Bs, 0, none⟩)], .pointer (some ⟨w.heap.size, 0, none⟩), undef, .slice none 0 0, .int .i64 x, .func (.func 67) #[] #[.pointer (some ⟨Bs, 0, none⟩)], .int .i64 x, undef, undef, undef, undef, undef], defers := [] }) ?assign ?body ?done ?stop
  case assign =>
    intro l x W K hK
    gi_wp2
    exact hK
  case stop =>
    rintro D c pre W _ _ h
    exact h.elim
  case body =>
    rintro l pre x W ⟨⟨v, hv, hrow, -⟩, hB⟩ hlen
    have hv1 := hv.cell
    have hle : w.heap.size ≤ W.heap.size := hB.size
    gi_wp2_with (gi_at_builtin; refine wpListIn_append_own _ rfl _ _ 27 rfl w.heap.size 3 i0 (.int .i64 0) 1 8 Try.underlying27 hi hz0 hz1 hz2 rfl (by decide) _ _ _ rfl (hrow.alloc _) ⟨W.heap.size, 0, none⟩ 1 1 [.int .i64 x] rfl rfl (cell_one_new _ _ _) (by simp [Value.oneCell']) (by simp only [maxLen]; omega) (by omega) (by have := hB.size; simp; omega) ?_; intro v' w1 hown' hgrow _; obtain ⟨g', cap', rfl⟩ := ownsRow_succ hown'; obtain ⟨hv1, hv2, hr2, hk2, hb2⟩ := hv.appended (by decide) hrow hle (Nat.le_refl _) hown' hgrow; have hc1 := hv1.cell; have hf1 := hv1.frozen)
    refine ⟨hk2.from _, KeepT.of_below (fun _ h => h) hb2, ⟨_, hv2, ?_, trivial⟩, hB.trans hb2⟩
    have h := hr2
    rw [nums_append, List.length_append]
    exact h
  case done =>
    rintro D ys W hD rfl ⟨⟨v, hv, hr, -⟩, hB⟩ hK
    have hv1 := hv.cell
    gi_wp2
    refine ⟨by simp, .inl ⟨_, _, rfl, run_takeDeferred hK, ?_⟩⟩
    exact ⟨_, results_tmp rfl _ _ _, v, rfl, by have h := ownsRow_putObj hr (.deferred none) hK rfl; rwa [fwdP_all] at h, hB.trans (belowK_b (w := w) (Nat.le_refl _) W D _ _ (by omega) hK rfl rfl)⟩
set_option maxHeartbeats 1000000 in
theorem collect_calls (Bs : Nat) (A : Option Addr) (c : Nat) (xs : List Int) (hreach : xs.length * 8 ≤ 140737488355328) (w : World) (hBs : Bs < w.heap.size)
    (hc : w.cell? ⟨Bs, 0, none⟩ = some (.slice A xs.length c)) (hI : IntsT (· < w.heap.size) w A xs) :
    Calls Try.prog 65 #[.func (.func 67) #[] #[.pointer (some ⟨Bs, 0, none⟩)]] w fun e w' => ∃ v, e = .returned v ∧ w'.ownsRow w.heap.size 3 1 v xs.length (nums .i64 xs) ∧ Below w.heap.size w w' := by
  have h := appendSeq_calls Bs A c xs hreach w hBs hc hI
  clear hc
  go_enter Try.func65, Try.ntmps65
  go_wp2_with fail
  refine h.mono ?_
  rintro e w1 ⟨v, rfl, hr, hb⟩
  go_wp2
  go_ret
  exact ⟨v, rfl, hr, hb⟩

end Go.Proofs.Ytmigibamdeodpaa.Print
