/- slices.Backward and waves.triangle, by hand. -/
import Derived.Test.YtmigibamdeodpaaProg
import Derived.Laws.EntriesVeiled
import Derived.Outline
import Derived.Below
import Derived.Deep.Draws
import Derived.Deep.AppendLies
import Derived.Maps.AppendAt
import Derived.OwnWalk
import Derived.Laws.BytesArg
import Derived.Laws.MakeOwn
import Derived.Laws.OwnMore
import Derived.Deep.OwnRows
import Derived.Tactics
import Derived.Lib.ConvBytes
import Derived.Laws.Slices
import Derived.WalkKit
import Derived.KernelRfl
import Derived.RowKit3
import Derived.Deep.LoopGhost
import Derived.Deep.QuietTactic
import Derived.BigQuiet
import Derived.WideLaws
import Derived.Deep.DeepCutAuto
import Derived.Deep.CutBlock
import Derived.Deep.RegionHeld3
import Derived.Laws.Rows
import Derived.Lib.AppendStr
import Derived.ArgAppend
import Derived.Laws.IdiomCopy
import Derived.OrdersHeld
import Derived.Laws.BitsLemmas
import Derived.RowKit
import Derived.Test.YtmigibamdeodpaaWWords
import Derived.Test.YtmigibamdeodpaaWLast
import Derived.Test.YtmigibamdeodpaaWTab
import Derived.Test.YtmigibamdeodpaaWQPut
import Derived.Test.YtmigibamdeodpaaWApart
import Derived.Test.YtmigibamdeodpaaWArr
import Derived.Test.YtmigibamdeodpaaWZeros
import Derived.Test.YtmigibamdeodpaaWFoot
import Derived.Test.YtmigibamdeodpaaWKept
import Derived.Test.YtmigibamdeodpaaWShare
import Derived.Test.YtmigibamdeodpaaWN
import Derived.Test.YtmigibamdeodpaaWRepsOne
import Derived.Test.YtmigibamdeodpaaWGuard
import Derived.Test.YtmigibamdeodpaaWNEv
import Derived.Test.YtmigibamdeodpaaWMore
import Derived.RangeFuncBox
import Derived.RangeFuncLeaves
import Derived.RangeFuncNested
import Derived.RangeFuncBound
import Derived.RangeFuncCalls
import Derived.Shelf.Abstract
import Derived.OwnWalkIn
import Derived.TacticsInMore
import Derived.LoopNIn
import Derived.LoopIn
import Derived.OrdersIn
import Derived.Test.YtmigibamdeodpaaHandRange
namespace Go.Proofs.Ytmigibamdeodpaa.Print
open Go.RowKit Go.Proofs.YtmigibamdeodpaaW.PrintWords Go.Proofs.YtmigibamdeodpaaW.PrintLast Go.Proofs.YtmigibamdeodpaaW.PrintMore
attribute [local go_sem] max2_int min2_int max_two min_two max_three min_three max_four min_four
set_option linter.unusedVariables false
set_option linter.unusedSimpArgs false
open Go.Shelf
attribute [local go_sem] Oper.semAt_some

/-! ### slices.Backward: functions 64, 72 -/
set_option maxRecDepth 100000 in
set_option maxHeartbeats 2000000 in
theorem backward1_in (n : Nat) (hn : 1 ≤ n) (l Bs : Nat) (T : Nat → Prop) (A : Option Addr) (c : Nat) (xs : List Int) (hreach : xs.length ≤ 9223372036854775807) (hBs : T Bs) (J Jx : List (Int × Int) → World → Prop)
    (hY : ∀ pre x W, J pre W → pre.length < xs.length → YieldAt Fence.wide (n - 1) Try.prog l #[.int .i64 x.1, .int .i64 x.2] W fun e W' =>
      (e = .returned (.bool true) ∧ J (pre ++ [x]) W' ∧ KeepT T W W') ∨ (e = .returned (.bool false) ∧ Jx (pre ++ [x]) W'))
    (W : World) (hS : W.cell? ⟨Bs, 0, none⟩ = some (.slice A xs.length c)) (hC : IntsT T W A xs) (h0 : J [] W) :
    CallsIn Fence.wide n Try.prog 72 #[.func (.yield l) #[] #[], .pointer (some ⟨Bs, 0, none⟩)] W fun e W' => (∃ v, e = .returned v) ∧
      ((∃ ys, ys = revP xs xs.length ∧ J ys W') ∨ (∃ pre, (∃ k, k ≤ xs.length ∧ pre = revP xs k) ∧ Jx pre W')) := by
  refine callsIn_of_wp Try.func72 rfl trivial ?_ rfl
  simp only [Try.ntmps72, List.size_toArray, List.length_cons, List.length_nil, Nat.reduceAdd, Nat.reduceSub, Array.replicate_succ, Array.replicate_zero, List.push_toArray, List.append_toArray, List.nil_append, List.cons_append]
  gi_wp2
  gi_loopw [3] (fun i wr => ∃ (k : Nat) (j : Int), k ≤ xs.length ∧ i = .int .i64 j ∧ Hid (j = (xs.length : Int) - 1 - k) ∧ J (revP xs k) wr ∧ KeepT T W wr)
    (fun i _ => (intOf i + 1).toNat)
  case atStart => exact ⟨0, _, Nat.zero_le _, rfl, show _ = _ by omega, h0, KeepT.refl _ _⟩
  case round =>
    obtain ⟨k, j, hk, rfl, hj, hJs, hnx⟩ := hrel
    have hcs := (hnx.cell (p := ⟨Bs, 0, none⟩) hBs).trans hS
    by_cases hlt : k < xs.length
    · have hj0 : 0 ≤ j := by have := hj.out; omega
      have hj1 : j < xs.length := by have := hj.out; omega
      obtain ⟨ad, rfl, had, hcx⟩ := (hC.keep hnx) j hj0 hj1
      obtain ⟨fn, tmps, assign, body, hy, hR⟩ := hY _ (j, rd xs j) wr hJs (by rw [revP_length]; exact hlt)
      dsimp only at hy
      have hd : decide (0 ≤ j) = true := decide_eq_true hj0
      gi_wp2
      refine hR.mono ?_
      rintro e W3 (⟨rfl, hJ3, hk3⟩ | ⟨rfl, hJx3⟩)
      · gi_wp2
        go_roundw
        case rel => exact ⟨k + 1, _, by omega, rfl, show _ = _ by have := hj.out; omega, by rw [revP_succ, ← hj.out]; exact hJ3, hnx.trans hk3⟩
        case measure => simp [intOf]; omega
      · gi_wp2
        refine bodyPost_ret (results_none rfl _ _ _) rfl ?_
        exact ⟨⟨_, rfl⟩, .inr ⟨_, ⟨k + 1, by omega, by rw [revP_succ, ← hj.out]⟩, hJx3⟩⟩
    · have hkl : k = xs.length := by omega
      have hj0 : j < 0 := by have := hj.out; omega
      have hd : decide (0 ≤ j) = false := decide_eq_false (by omega)
      gi_wp2
      go_end0
      exact ⟨⟨_, rfl⟩, .inl ⟨_, rfl, by rw [hkl] at hJs; exact hJs⟩⟩
set_option maxHeartbeats 1000000 in
theorem backward_calls (A : Option Addr) (len c : Nat) (w : World) :
    Calls Try.prog 64 #[.slice A len c] w fun e w' => e = .returned (.func (.func 72) #[] #[.pointer (some ⟨w.heap.size, 0, none⟩)]) ∧ w' = w.alloc (.cells #[.slice A len c] 27) := by
  go_enter Try.func64, Try.ntmps64
  go_wp2
  go_ret
  exact ⟨rfl, rfl⟩
theorem backward_stops (n : Nat) (hn : 1 ≤ n) (Bs : Nat) (T : Nat → Prop) (A : Option Addr) (c : Nat) (xs : List Int) (hreach : xs.length ≤ 9223372036854775807) (w : World) (hBs : T Bs) (hT : ∀ k, T k → k < w.heap.size)
    (hc : w.cell? ⟨Bs, 0, none⟩ = some (.slice A xs.length c)) (hI : IntsT T w A xs) :
    SeqStopsK Fence.wide n Try.prog 72 #[.pointer (some ⟨Bs, 0, none⟩)] (fun x : Int × Int => #[Value.int .i64 x.1, Value.int .i64 x.2]) (KeepT T) (fun ys => ys = revP xs xs.length) (fun pre => ∃ k, k ≤ xs.length ∧ pre = revP xs k) xs.length w := fun l J Jx W hW _ _ hY h0 =>
  backward1_in n hn l Bs T A c xs hreach hBs J Jx hY W ((hW.cell (p := ⟨Bs, 0, none⟩) (hT _ hBs)).trans hc) (hI.keep (KeepT.of_below hT hW)) h0

/-! ### waves.triangle: function 43 -/
def triNext (last : List Int) : List Int := last.reverse.foldl (fun row x => row ++ [wrap64 (rd row ((row.length : Int) - 1) + x)]) [0]
def triRow : Nat → List Int
  | 0 => [1]
  | n + 1 => triNext (triRow n)
def triRows (n : Nat) : List (List Int) := (List.range (n + 1)).map triRow
theorem triRows_length (n : Nat) : (triRows n).length = n + 1 := by simp [triRows]
theorem triRows_succ (n : Nat) : triRows (n + 1) = triRows n ++ [triNext (triRow n)] := by
  unfold triRows
  rw [List.range_succ, List.map_append]
  rfl
theorem triRows_last (n : Nat) : (triRows n).getD n [] = triRow n := by simp [triRows]
def waves_triangle.f (a0 : Int) : Option (List (List Int)) := if a0 ≤ 30 then some (triRows a0.toNat) else none
/-- The row as it grows. -/
def triFold (pre : List (Int × Int)) : List Int := (pre.map (·.2)).foldl (fun row x => row ++ [wrap64 (rd row ((row.length : Int) - 1) + x)]) [0]
theorem triFold_snoc (pre : List (Int × Int)) (x : Int × Int) : triFold (pre ++ [x]) = triFold pre ++ [wrap64 (rd (triFold pre) (((triFold pre).length : Int) - 1) + x.2)] := by simp [triFold, List.foldl_append]
theorem triFold_length (pre : List (Int × Int)) : (triFold pre).length = pre.length + 1 := by
  have h : ∀ (l : List Int) (a : List Int), (l.foldl (fun row x => row ++ [wrap64 (rd row ((row.length : Int) - 1) + x)]) a).length = a.length + l.length := by
    intro l
    induction l with
    | nil => intro a; rfl
    | cons y l ih => intro a; rw [List.foldl_cons, ih, List.length_append]; simp; omega
  unfold triFold
  rw [h]
  simp
  omega
theorem triFold_all (xs : List Int) : triFold (revP xs xs.length) = triNext xs := by unfold triFold triNext; rw [revP_snd]
theorem triRow_length (n : Nat) : (triRow n).length = n + 1 := by
  induction n with
  | zero => rfl
  | succ n ih => rw [triRow, ← triFold_all, triFold_length, revP_length, ih]
theorem appended2 {W w1 : World} {n₀ B : Nat} {t e : TypeId} {size : Nat} {v v' : Value} {k m : Nat} {xs ys : List Value}
    (hv : Boxed W B t v) (hte : t ≠ e) (hrow : W.ownsRow n₀ e size v k xs) (hn₀ : n₀ ≤ W.heap.size) (hB : n₀ ≤ B)
    (hown' : w1.ownsRow n₀ e size v' m ys) (hgrow : W.grownBy w1 v.ownBlock) :
    Boxed w1 B t v ∧ Boxed (w1.setCell ⟨B, 0, none⟩ v') B t v' ∧ (w1.setCell ⟨B, 0, none⟩ v').ownsRow n₀ e size v' m ys ∧ KeepsOthers W (w1.setCell ⟨B, 0, none⟩ v') ∧ Below n₀ W (w1.setCell ⟨B, 0, none⟩ v') := by
  have hv1 : Boxed w1 B t v := hv.kept hgrow (hv.not_row hte hrow)
  refine ⟨hv1, hv1.set v', hown'.kept (grownBy_setCell' w1 B v') (.inr (hv1.not_row hte hown').symm), ?_, ?_⟩
  · refine (KeepsOthers.of_grownBy hgrow fun j o ej hj => ?_).trans (KeepsOthers.setCell _ _ _)
    rcases hrow.2 with ⟨rfl, _⟩ | ⟨g, cap, cur, rfl, _, hgb, _⟩
    · simp [Value.ownBlock] at ej
    · obtain rfl : g = j := by simpa [Value.ownBlock] using ej
      rw [hgb] at hj; cases hj; rfl
  · refine ((Below.refl n₀ W).grown hgrow hn₀ fun j ej => ?_).setCell (p := ⟨B, 0, none⟩) hB v'
    rcases hrow.2 with ⟨rfl, _⟩ | ⟨g, cap, cur, rfl, hb, _, _⟩
    · simp [Value.ownBlock] at ej
    · obtain rfl : g = j := by simpa [Value.ownBlock] using ej
      exact hb
theorem boxed_eq {W W' : World} {B : Nat} {t : TypeId} {v : Value} (h : Boxed W' B t v) (h0 : Boxed W B t v) : W'.heap[B]? = W.heap[B]? := Eq.trans h (Eq.symm h0)
theorem hinfo3 : (Try.prog.info? 3).map (fun i => (i.zero, i.size, i.bytes)) = some (some (.int .i64 0), 1, 8) := by kernel_rfl
theorem hinfo27 : (Try.prog.info? 27).map (fun i => (i.zero, i.size, i.bytes)) = some (some (.slice none 0 0), 1, 24) := by kernel_rfl
def waves_triangle.T7 : Bool × List (List Nat × List Nat) := (true, [([], []), ([], []), ([], []), ([2], [2]), ([3], [3]), ([1, 4], [1, 4]), ([5], [5]), ([], []), ([6, 7], [6, 7]), ([8], [8]), ([0, 9], [0, 9]), ([10, 10, 0, 1, 2, 3, 4, 5, 6, 7, 8, 9, 10], [10])])
def waves_triangle.B7 : List Nat := [0, 0, 0, 4, 12, 30, 62, 0, 254, 510, 1023, 2047]
theorem waves_triangle.tab7 : rtab .any (opsOf Try.f43 7) = waves_triangle.T7 := by kernel_rfl
theorem waves_triangle.bits7 : waitsOk waves_triangle.T7.2 waves_triangle.B7 = true := by kernel_rfl
def sliceLen : Value → Nat | .slice _ n _ => n | _ => 0
theorem S_single {W : World} {base : Nat} {v : Value} {x : List Int} (h : (Kd.int .i64).R 3 W base (fun _ => True) v x) (hb : base ≤ W.heap.size := by first | exact Nat.le_refl _ | simp) :
    Kd.S (Kd.slice 3 (Kd.int .i64)) 27 (W.alloc (.cells #[v] 27)) base (fun _ => True) (.slice (some ⟨W.heap.size, 0, none⟩) 1 1) [x] := by
  refine ⟨fun _ => 0, fun _ _ => trivial, [v], ?_, ?_⟩
  · exact World.ownsRow_lit (base := base) (e := 27) (size := 1) W #[v] 1 hb (by simp [maxLen]) (by simp)
  · refine ⟨rfl, fun j p hj => ?_⟩
    match j, hj with
    | 0, hj =>
      obtain rfl : p = (x, 0) := by simpa using hj.symm
      refine ⟨v, rfl, Kd.R_mono (Kd.R_bound (Kd.R_alloc h _)) (fun k hk => ⟨⟨trivial, fun e => ?_⟩, rfl⟩)⟩
      obtain ⟨_, _, _, q, hq, cells, hc⟩ := hk
      obtain rfl : k = W.heap.size := by simpa [Value.ownBlock] using e
      rw [heap_new1] at hc
      injection hc with hc
      injection hc with _ hc
      rw [← hc] at hq
      simp [Kd.int, Kd.scalar] at hq
/-- The marks of loops over functions are taken off at the return. -/
theorem leaves_marks {F : Fence} {n : Nat} {P : Program} {fn : Func} {tmps : Array Value} {R : Ending → World → Prop} (Inv : World → Prop) (B : Nat)
    (hput : ∀ W D, Inv W → B ≤ D → W.heap[D]? = some (.deferred (some [])) → Inv (W.putObj D (.deferred none))) (hend : ∀ W, Inv W → LeavesIn F n P fn tmps R [] .returning W) :
    ∀ (ds : List Deferred) (W : World), Inv W → (∀ d ∈ ds, ∃ D, B ≤ D ∧ d = { target := .collected D, args := #[] } ∧ W.heap[D]? = some (.deferred (some []))) → ds.Pairwise (· ≠ ·) → LeavesInM F n P fn tmps R ds .returning W
  | [], W, hI, _, _ => hend W hI
  | d :: ds, W, hI, hD, hP => by
    obtain ⟨D, hB, rfl, hK⟩ := hD d List.mem_cons_self
    have hP' := List.pairwise_cons.1 hP
    refine ⟨by simp, .inl ⟨D, _, rfl, run_takeDeferred hK, leaves_marks Inv B hput hend ds _ (hput W D hI hB hK) (fun d hd => ?_) hP'.2⟩⟩
    obtain ⟨D', h1, h2, h3⟩ := hD d (List.mem_cons_of_mem _ hd)
    refine ⟨D', h1, h2, ?_⟩
    rw [World.putObj_heap_other (fun e => hP'.1 d hd (by rw [h2, e]))]
    exact h3
/-- The loop's head: what the frame and the world are. -/
def TriI (w : World) (a0 : Int) (a : Act) (W : World) : Prop := ∃ (m : Nat) (v3 : Value) (ds : List Deferred) (u1 u2 u4 u5 u6 u7 u8 u9 u10 u11 u12 u13 u14 u15 u16 u17 u18 u19 u20 u21 u22 u23 u24 u25 u26 u27 u28 u29 u30 u31 u32 u33 u34 u35 u36 u37 u38 u39 u40 : Value),
  a = { tmps := #[.int .i64 a0, u1, u2, v3, u4, u5, u6, u7, u8, u9, u10, u11, u12, u13, u14, u15, u16, u17, u18, u19, u20, u21, u22, u23, u24, u25, u26, u27, u28, u29, u30, u31, u32, u33, u34, u35, u36, u37, u38, u39, u40], defers := ds } ∧ m ≤ a0.toNat ∧
  Aside0 (Kd.S (Kd.slice 3 (Kd.int .i64)) 27 W w.heap.size (fun _ => True) v3 (triRows m)) ∧ Aside0 (Below w.heap.size w W) ∧ Aside0 (∀ d ∈ ds, ∃ D, w.heap.size ≤ D ∧ d = { target := .collected D, args := #[] } ∧ W.heap[D]? = some (.deferred (some []))) ∧ Aside0 (ds.Pairwise (· ≠ ·))
set_option maxHeartbeats 4000000 in
set_option maxRecDepth 100000 in
theorem waves_triangle.calls (a0 : Int) (r : List (List Int)) (w : World) (h : waves_triangle.f a0 = some r) :
    Calls Try.prog 43 #[.int .i64 a0] w fun e w' => ∃ v0_ : Value, e = .returned (v0_) ∧ Kd.S (Kd.slice 3 (Kd.int .i64)) 27 w' w.heap.size (fun _ => True) v0_ r ∧ Below w.heap.size w w' := by
  unfold waves_triangle.f at h
  by_cases ha : a0 ≤ 30
  case neg => rw [if_neg ha] at h; cases h
  rw [if_pos ha] at h
  obtain rfl := Option.some.inj h
  clear h
  refine (callsIn_wide (n := 10)).1 ?_
  refine callsIn_of_wp_marks Try.func43 rfl trivial ?_ rfl
  refine wpIn_wide.2 ?_
  simp only [Try.ntmps43, List.size_toArray, List.length_cons, List.length_nil, Nat.reduceAdd, Nat.reduceSub, Array.replicate_succ, Array.replicate_zero, List.push_toArray, List.append_toArray, List.nil_append, List.cons_append]
  go_wp2
  refine wp_loop (TriI w a0) (fun a _ => a0.toNat + 1 - sliceLen (a.tmps.getD 3 undef)) ?start ?round
  case start =>
    refine ⟨0, _, _, _, _, _, _, _, _, _, _, _, _, _, _, _, _, _, _, _, _, _, _, _, _, _, _, _, _, _, _, _, _, _, _, _, _, _, _, _, _, _, rfl, Nat.zero_le _, ?_, ⟨((Below.refl _ w).alloc (Nat.le_refl _) _).alloc (by simp) _⟩, ⟨fun d hd => by cases hd⟩, ⟨List.Pairwise.nil⟩⟩
    have h := S_single (base := w.heap.size) (Kd.R_of_own ((own_lit w w.heap.size 3 .i64 [1] (Nat.le_refl _) (by simp))) (fun _ _ => trivial)) (by simp)
    rw [World.size_alloc] at h
    exact ⟨h⟩
  case round =>
    rintro a wr ⟨m, v3, ds, u1, u2, u4, u5, u6, u7, u8, u9, u10, u11, u12, u13, u14, u15, u16, u17, u18, u19, u20, u21, u22, u23, u24, u25, u26, u27, u28, u29, u30, u31, u32, u33, u34, u35, u36, u37, u38, u39, u40, rfl, hm, HS, HB, HD, HP⟩
    obtain ⟨A, c, rfl, hc, hC⟩ := Kd.S_reads HS.out
    rw [triRows_length] at *
    by_cases hlt : (m : Int) + 1 ≤ a0
    · obtain ⟨ad, cs, rfl, hcl, hK, hcell⟩ := Kd.C_get hC [] (m : Int) (by omega) (by omega)
      have hrow : (triRows m).getD (m : Int).toNat [] = triRow m := by rw [Int.toNat_natCast]; exact triRows_last m
      rw [hrow] at hK
      obtain ⟨A0, c0, rfl, hc0, hC0⟩ := hK
      have hx : wr.cell? (ad.add m) = some (.slice A0 (triRow m).length c0) := by
        have := hcell 0 _ rfl
        simpa [Kd.slice] using this
      have HC0 := Aside0.mk hC0
      clear hrow hcl hcell hC0 hC hc hc0
      have hd : decide ((m : Int) + 1 ≤ a0) = true := decide_eq_true hlt
      go_wp2_with (first | (go_at_call 64; refine (backward_calls _ _ _ _).mono ?_; rintro e w' ⟨rfl, rfl⟩))
      have hb3 : Below wr.heap.size wr (((wr.alloc (Obj.cells #[Value.int .i64 0] 3)).alloc (Obj.cells #[Value.slice (some { block := wr.heap.size, off := 0 }) 1 1] 27)).alloc (Obj.cells #[Value.slice A0 (triRow m).length c0] 27)) := (((Below.refl _ wr).alloc (Nat.le_refl _) _).alloc (by simp) _).alloc (by simp; omega) _
      have bX : Boxed (((wr.alloc (Obj.cells #[Value.int .i64 0] 3)).alloc (Obj.cells #[Value.slice (some { block := wr.heap.size, off := 0 }) 1 1] 27)).alloc (Obj.cells #[Value.slice A0 (triRow m).length c0] 27)) (wr.heap.size + 1) 27 (.slice (some ⟨wr.heap.size, 0, none⟩) 1 1) := heap_old1 (heap_new2 _ _ _)
      have bS : Boxed (((wr.alloc (Obj.cells #[Value.int .i64 0] 3)).alloc (Obj.cells #[Value.slice (some { block := wr.heap.size, off := 0 }) 1 1] 27)).alloc (Obj.cells #[Value.slice A0 (triRow m).length c0] 27)) (wr.heap.size + 1 + 1) 27 (.slice A0 (triRow m).length c0) := by
        have := heap_new2 (wr.alloc (Obj.cells #[Value.int .i64 0] 3)) (Obj.cells #[Value.slice A0 (triRow m).length c0] 27) (Obj.cells #[Value.slice (some { block := wr.heap.size, off := 0 }) 1 1] 27)
        rwa [World.size_alloc] at this
      have rR : World.ownsRow (((wr.alloc (Obj.cells #[Value.int .i64 0] 3)).alloc (Obj.cells #[Value.slice (some { block := wr.heap.size, off := 0 }) 1 1] 27)).alloc (Obj.cells #[Value.slice A0 (triRow m).length c0] 27)) wr.heap.size 3 1 (.slice (some ⟨wr.heap.size, 0, none⟩) 1 1) (triFold []).length (nums .i64 (triFold [])) := ((own_lit wr wr.heap.size 3 .i64 [0] (Nat.le_refl _) (by simp)).alloc _).alloc _
      have hs3 : (((wr.alloc (Obj.cells #[Value.int .i64 0] 3)).alloc (Obj.cells #[Value.slice (some { block := wr.heap.size, off := 0 }) 1 1] 27)).alloc (Obj.cells #[Value.slice A0 (triRow m).length c0] 27)).heap.size = wr.heap.size + 3 := by simp
      generalize (((wr.alloc (Obj.cells #[Value.int .i64 0] 3)).alloc (Obj.cells #[Value.slice (some { block := wr.heap.size, off := 0 }) 1 1] 27)).alloc (Obj.cells #[Value.slice A0 (triRow m).length c0] 27)) = W3 at hb3 bX bS rR hs3 ⊢
      have hT : ∀ k, (k < wr.heap.size ∨ k = wr.heap.size + 1 + 1) → k < W3.heap.size := by rw [hs3]; intro k hk; omega
      have hkw : wr.heap.size ≤ W3.heap.size ∧ ∀ k, k < wr.heap.size → W3.heap[k]? = wr.heap[k]? := ⟨hb3.size, fun k hk => hb3.block k hk⟩
      have hI : IntsT (fun k => k < wr.heap.size ∨ k = wr.heap.size + 1 + 1) W3 A0 (triRow m) := IntsT.mono (IntsT.keep (T := fun k => k < wr.heap.size) (IntsT.of_C HC0.out rfl (fun k hk => hk)) hkw) (fun k hk => .inl hk)
      refine (wpIn_wide (n := 10)).1 (wpIn_rangeFunc_ownG (F := Fence.wide) (P := Try.prog) rfl (by omega) (gf := 72) (lb := #[.pointer (some ⟨wr.heap.size + 1 + 1, 0, none⟩)]) rfl trivial (enters_of Try.func72 (by kernel_rfl) rfl)
        (backward_stops 9 (by omega) (wr.heap.size + 1 + 1) (fun k => k < wr.heap.size ∨ k = wr.heap.size + 1 + 1) A0 c0 (triRow m) (by rw [triRow_length]; omega) W3 (.inr rfl) hT bS.cell hI) (fun h k => h.trans k) (KeepT.put hT) (Below.refl _ _) (fun _ => rfl)
        (fun pre W => (∃ v, Boxed W (wr.heap.size + 1) 27 v ∧ W.ownsRow wr.heap.size 3 1 v (triFold pre).length (nums .i64 (triFold pre)) ∧ True) ∧ Boxed W (wr.heap.size + 1 + 1) 27 (.slice A0 (triRow m).length c0) ∧ Below wr.heap.size W3 W)
        (fun _ _ _ => False)
        (OwnFrom.and (Own.from (holdsRow_own wr.heap.size (wr.heap.size + 1) 27 3 1 (fun pre => (triFold pre).length) (fun pre => nums .i64 (triFold pre)) (fun _ _ => True)) _) (OwnFrom.and (Own.from (boxed_own _ _ _) _) (ownFrom_below (by omega) (by omega))))
        (fun _ _ _ _ _ hs _ _ => hs.elim) ⟨⟨_, bX, rR, trivial⟩, bS, Below.refl _ _⟩
        (fun x => { tmps := #[Value.int .i64 a0, u1, u2, Value.slice (some ad) (m + 1) c, Value.slice A0 (triRow m).length c0,
          Value.pointer (some { block := wr.heap.size + 1, off := 0 }), u6, .int .i64 x.2, u8, u9, Value.slice (some ad) (m + 1) c,
          Value.int .i64 (↑m + 1), Value.int .i64 a0, Value.bool true, Value.slice (some ad) (m + 1) c,
          Value.slice (some ad) (m + 1) c, Value.int .i64 (↑m + 1), Value.int .i64 ↑m,
          Value.pointer (some (ad.add m)), Value.slice A0 (triRow m).length c0,
          Value.slice (some { block := wr.heap.size, off := 0 }) 1 1, Value.slice A0 (triRow m).length c0,
          Value.func (Fn.func 72) #[] #[Value.pointer (some { block := wr.heap.size + 1 + 1, off := 0 })], .int .i64 x.1, .int .i64 x.2,
          u25, u26, u27, u28, u29, u30, u31, u32, u33, u34, u35, u36, u37, u38, u39, u40], defers := [] }) ?assign ?body ?done ?stop)
      case assign =>
        intro l x W K hK
        gi_wp2
        exact hK
      case stop =>
        rintro D c pre W _ _ h
        exact h.elim
      case body =>
        rintro l pre x W ⟨⟨v, hv, hr, -⟩, hbs, hbw⟩ hlen
        gi_wp2
        rw [triRow_length] at hlen
        obtain ⟨R, hR⟩ : ∃ R, R = triFold pre := ⟨_, rfl⟩
        have hRl := triFold_length pre
        have hsn := triFold_snoc pre x
        rw [← hR] at hr hRl hsn
        obtain ⟨p, hp⟩ : ∃ p, pre.length = p := ⟨_, rfl⟩
        rw [hp] at hRl hlen
        have HRE := Aside0.mk hR
        clear hR
        have hrR : (Kd.int .i64).R 3 W wr.heap.size (fun _ => True) v R := Kd.R_of_own hr (fun _ _ => trivial)
        obtain ⟨A1, cp, rfl, hRd⟩ := own_reads hr
        obtain ⟨ad1, rfl, hx1⟩ := hRd.at_ (p : Int) (by omega) (by omega)
        rw [Int.toNat_natCast] at hx1
        rw [hRl] at hv hrR hr hsn
        have HSN := Aside0.mk (show triFold (pre ++ [x]) = R ++ [wrap64 (rd R p + x.2)] by rw [hsn]; simp)
        have HRL := Aside0.mk hRl
        have HV : Aside0 (Boxed W.drew (wr.heap.size + 1) 27 (.slice (some ad1) (p + 1) cp)) := ⟨hv⟩
        have HR : Aside0 ((Kd.int .i64).R 3 W.drew wr.heap.size (fun _ => True) (.slice (some ad1) (p + 1) cp) R) := ⟨Kd.R_drew hrR⟩
        have HBS : Aside0 (Boxed W.drew (wr.heap.size + 1 + 1) 27 (.slice A0 (triRow m).length c0)) := ⟨hbs⟩
        have HBW : Aside0 (Below wr.heap.size W3 W.drew) := ⟨hbw.drew⟩
        have HKO : Aside0 (KeepsOthers W W.drew) := ⟨KeepsOthers.drew W⟩
        have HBD : Aside0 (Below wr.heap.size W W.drew) := ⟨(Below.refl _ _).drew⟩
        have HB0 := Aside0.mk hbs
        have hvc := hv.cell
        have hp30 : p ≤ 30 := by omega
        have hwp : wrap64 (p : Int) = p := by unfold wrap64; omega
        have hpl : (p : Int) < (p : Int) + 1 := by omega
        clear hsn hRl hRd hr hrR hbs hbw hp
        refine startIn_ (n := 12) (S := fun w' => w'.cell? ⟨wr.heap.size + 1, 0, none⟩ = some (.slice (some ad1) (p + 1) cp) ∧ w'.cell? (ad1.add p) = some (.int .i64 (rd R p))) (ds := [10, 11]) (fun ⟨_, _, h⟩ => h) (by kernel_rfl) #[false, false, false, false, false, false, false, false, false, false, false, false] (by kernel_rfl) rfl rfl ⟨hvc, hx1⟩ (fun hHeld => ?_); refine with_tabW waves_triangle.tab7 waves_triangle.bits7 (fun HT_ HW_ => ?_)
        clear hvc hx1
        generalize W.drew = W4 at HV HR HBS HBW HKO HBD hHeld ⊢
        refine take_ (i := 0) (N := some 25) (v := ?_) (a' := ?_) #[true, false, false, false, false, false, false, false, false, false, false, false] rfl rfl (take_ofW HT_.out HW_.out (by kernel_rfl)) (fun _ _ _ h => h) (Or.inl ⟨by rfl, ?_⟩) hHeld ?_ ?_
        rotate_left
        · rintro w' ⟨s0, s1⟩
          go_simp
          with_reducible rfl
        rotate_left
        · simp only [Act.put, List.setIfInBounds_toArray, List.set_cons_zero, List.set_cons_succ, i64_w, i32_w]
          rfl
        refine take_ (i := 1) (N := some 26) (v := ?_) (a' := ?_) #[true, true, false, false, false, false, false, false, false, false, false, false] rfl rfl (take_ofW HT_.out HW_.out (by kernel_rfl)) (fun _ _ _ h => h) (Or.inl ⟨by rfl, ?_⟩) hHeld ?_ ?_
        rotate_left
        · rintro w' ⟨s0, s1⟩
          go_simp
          with_reducible rfl
        rotate_left
        · simp only [Act.put, List.setIfInBounds_toArray, List.set_cons_zero, List.set_cons_succ, i64_w, i32_w]
          rfl
        refine take_ (i := 2) (N := some 27) (v := ?_) (a' := ?_) #[true, true, true, false, false, false, false, false, false, false, false, false] rfl rfl (take_ofW HT_.out HW_.out (by kernel_rfl)) (fun _ _ _ h => h) (Or.inl ⟨by rfl, ?_⟩) hHeld ?_ ?_
        rotate_left
        · rintro w' ⟨s0, s1⟩
          go_simp
          with_reducible rfl
        rotate_left
        · simp only [Act.put, List.setIfInBounds_toArray, List.set_cons_zero, List.set_cons_succ, i64_w, i32_w]
          rfl
        refine pure_ (i := 3) (N := some 28) (v := ?_) (a' := ?_) #[true, true, true, true, false, false, false, false, false, false, false, false] rfl rfl (any_of HT_.out (by kernel_rfl)) (fun _ _ _ h => h) (Or.inl ⟨by rfl, ?_⟩) ?_ ?_
        rotate_left
        · intro w'
          go_simp
          with_reducible rfl
        rotate_left
        · simp only [Act.put, List.setIfInBounds_toArray, List.set_cons_zero, List.set_cons_succ, i64_w, i32_w]
          rfl
        refine pure_ (i := 4) (N := some 29) (v := ?_) (a' := ?_) #[true, true, true, true, true, false, false, false, false, false, false, false] rfl rfl (any_of HT_.out (by kernel_rfl)) (fun _ _ _ h => h) (Or.inl ⟨by rfl, ?_⟩) ?_ ?_
        rotate_left
        · intro w'
          go_simp
          with_reducible rfl
        rotate_left
        · simp only [Act.put, List.setIfInBounds_toArray, List.set_cons_zero, List.set_cons_succ, i64_w, i32_w]
          rfl
        refine pure_ (i := 5) (N := some 30) (v := ?_) (a' := ?_) #[true, true, true, true, true, true, false, false, false, false, false, false] rfl rfl (any_of HT_.out (by kernel_rfl)) (fun _ _ _ h => h) (Or.inl ⟨by rfl, ?_⟩) ?_ ?_
        rotate_left
        · intro w'
          go_simp
          with_reducible rfl
        rotate_left
        · simp only [Act.put, List.setIfInBounds_toArray, List.set_cons_zero, List.set_cons_succ, i64_w, i32_w]
          rfl
        refine take_ (i := 6) (N := some 31) (v := ?_) (a' := ?_) #[true, true, true, true, true, true, true, false, false, false, false, false] rfl rfl (take_ofW HT_.out HW_.out (by kernel_rfl)) (fun _ _ _ h => h) (Or.inl ⟨by rfl, ?_⟩) hHeld ?_ ?_
        rotate_left
        · rintro w' ⟨s0, s1⟩
          go_simp
          with_reducible rfl
        rotate_left
        · simp only [Act.put, List.setIfInBounds_toArray, List.set_cons_zero, List.set_cons_succ, i64_w, i32_w]
          rfl
        refine pure_ (i := 7) (N := some 32) (v := ?_) (a' := ?_) #[true, true, true, true, true, true, true, true, false, false, false, false] rfl rfl (any_of HT_.out (by kernel_rfl)) (fun _ _ _ h => h) (Or.inl ⟨by rfl, ?_⟩) ?_ ?_
        rotate_left
        · intro w'
          go_simp
          with_reducible rfl
        rotate_left
        · simp only [Act.put, List.setIfInBounds_toArray, List.set_cons_zero, List.set_cons_succ, i64_w, i32_w]
          rfl
        refine pure_ (i := 8) (N := some 33) (v := ?_) (a' := ?_) #[true, true, true, true, true, true, true, true, true, false, false, false] rfl rfl (any_of HT_.out (by kernel_rfl)) (fun _ _ _ h => h) (Or.inl ⟨by rfl, ?_⟩) ?_ ?_
        rotate_left
        · intro w'
          go_simp
          with_reducible rfl
        rotate_left
        · simp only [Act.put, List.setIfInBounds_toArray, List.set_cons_zero, List.set_cons_succ, i64_w, i32_w]
          rfl
        refine one_ (i := 9) (N := some 34) #[true, true, true, true, true, true, true, true, true, true, false, false] rfl rfl (one_of HT_.out (by kernel_rfl)) (by decide) (fun K hK => ?_)
        refine value_ (w1 := ?_) (v := ?_) (by rfl) rfl ?_ ?_
        rotate_left 2
        · go_simp
          constructor
          · rfl
          · rfl
        refine hK.out _ _ ⟨pw_cell_below (below_alloc (Below.refl _ _) _) hHeld.1, pw_cell_below (below_alloc (Below.refl _ _) _) hHeld.2⟩ (fun hHeld => ?_)
        clear hK K
        refine norm_ (a' := ?_) ?_ ?_
        rotate_left
        · show Act.put _ (some 34) _ = _
          simp only [Act.put, List.setIfInBounds_toArray, List.set_cons_zero, List.set_cons_succ, i64_w, i32_w]
          rfl
        refine last_ (i := 10) (N := some 35) #[true, true, true, true, true, true, true, true, true, true, true, false] rfl rfl (one_of HT_.out (by kernel_rfl)) (by decide) (fun K hK => ?_)
        refine Kd.R_append_step (Kd.int .i64) (w0 := W3) wr.heap.size (by rfl) (.tmp 25) (.tmp 34) 27 3 (.int .i64 0) 8 rfl Try.underlying27 hinfo3 rfl (by decide) (by omega) (.slice (some ad1) (p + 1) cp) R (wrap64 (rd R p + x.2)) [.int .i64 (wrap64 (rd R p + x.2))] (fun _ => True) (fun _ => False) rfl rfl ?aP (fun _ hk => hk.elim) ?aF ?aO ?aB ?aS ?aL ?_
        (case aP => exact rfl)
        (case aF => exact (fun _ _ => trivial))
        (case aO => exact HR.out)
        (case aB => exact HBW.out)
        (case aS => have := HBW.out.size; omega)
        (case aL => have := HRL.out; omega)
        intro v1 w1 ho hb hg hat
        obtain ⟨A2, c2, rfl⟩ := Kd.R_slice ho
        have hbx := appended2 HV.out (by decide) (Kd.own_of_R HR.out) (by have := HBW.out.size; omega) (Nat.le_succ _) (Kd.own_of_R ho) hg
        have hbs1 : Boxed w1 (wr.heap.size + 1 + 1) 27 (.slice A0 (triRow m).length c0) := HBS.out.kept hg (HBS.out.not_row (by decide) (Kd.own_of_R HR.out))
        have HX := Aside0.mk hbx
        have HBS1 := Aside0.mk hbs1
        have HB1 := Aside0.mk hb
        have hc1 := hbx.1.cell
        have hf1 := hbx.1.frozen
        clear ho hb hg hat hbx hbs1
        refine hK.out _ _ ?_
        clear hK K
        refine norm_ (a' := ?_) ?_ ?_
        rotate_left
        · show Act.put _ (some 35) _ = _
          simp only [Act.put, List.setIfInBounds_toArray, List.set_cons_zero, List.set_cons_succ, i64_w, i32_w]
          rfl
        refine last_ (i := 11) (N := none) #[true, true, true, true, true, true, true, true, true, true, true, true] rfl rfl (one_of HT_.out (by kernel_rfl)) (by decide) (fun K hK => ?_)
        refine skip_ (w1 := ?_) (by rfl) rfl ?_ ?_
        rotate_left
        · go_simp
          rfl
        refine hK.out _ _ ?_
        clear hK K
        refine done_ (done_of HT_.out (by kernel_rfl)) ?_
        simp only [List.length_append, List.length_cons, List.length_nil, Nat.zero_add] at HX
        refine ⟨(HKO.out.trans HX.out.2.2.2.1).from _, ?kt, ⟨_, HX.out.2.1, ?own, trivial⟩, ?bs, HBW.out.trans HX.out.2.2.2.2⟩
        case own => have := HX.out.2.2.1; rw [HSN.out, List.length_append]; exact this
        case bs => exact HBS1.out.kept (grownBy_setCell' _ _ _) (by simp)
        case kt =>
          refine ⟨Nat.le_trans HBD.out.size HX.out.2.2.2.2.size, fun k hk => ?_⟩
          rcases hk with hk | rfl
          · exact (HX.out.2.2.2.2.block k hk).trans (HBD.out.block k hk)
          · exact boxed_eq (HBS1.out.kept (grownBy_setCell' _ _ _) (by simp)) HB0.out
      case done =>
        rintro D ys W hD rfl ⟨⟨v, hv, hr, -⟩, hbs, hbw⟩ hK
        rw [triFold_all] at hr
        have hrR : (Kd.int .i64).R 3 W w.heap.size (fun k => wr.heap.size ≤ k) v (triNext (triRow m)) := Kd.R_lower (Kd.R_of_own hr (own_base hr)) HB.out.size
        obtain ⟨A2, c2, rfl⟩ := own_slice hr
        have hvc := hv.cell
        have hbW : Below wr.heap.size wr W := hb3.trans hbw
        have HRR := Aside0.mk hrR
        have HKD := Aside0.mk hK
        have HBW := Aside0.mk hbW
        have HDD := Aside0.mk hD
        clear hr hrR hbs hbw hK hv hbW hD hb3 bX bS rR hI hT
        have hm30 : (triRows m).length ≤ 31 := by rw [triRows_length]; omega
        have HM30 := Aside0.mk hm30
        clear hm30
        go_wp2_with (first | (at_builtin; refine Kd.S_append (Kd.slice 3 (Kd.int .i64)) (w0 := w) w.heap.size rfl (.tmp 36) (.tmp 38) 22 27 (.slice none 0 0) 24 rfl Try.underlying22 hinfo27 rfl (by decide) (by omega) (.slice (some ad) (m + 1) c) (triRows m) (triNext (triRow m)) [.slice A2 (triNext (triRow m)).length c2] (fun _ => True) (fun k => wr.heap.size ≤ k) rfl rfl ?aP ?aK ?aF ?aO ?aB ?aS ?aL ?_; (case aP => exact ⟨_, rfl, HRR.out⟩); (case aK => exact fun k hk => ⟨trivial, fun e => by have := Kd.S_lt HS.out k e.symm; omega⟩); (case aF => exact fun _ _ => trivial); (case aO => exact Kd.S_below (Kd.S_mono (Kd.S_bound HS.out) (fun k hk => ⟨trivial, by have := hk.2.2.1; omega⟩)) (HBW.out)); (case aB => exact below_then HB.out HB.out.size HBW.out); (case aS => exact Nat.le_trans HB.out.size HBW.out.size); (case aL => have := HM30.out; omega); intro v1 w1 hs1 hb1 hg1 hat1; obtain ⟨A3, c3, hv1⟩ := Kd.S_slice hs1; rw [List.length_append, triRows_length] at hv1; subst hv1; rw [← triRows_succ] at hs1; have HS1 := Aside0.mk hs1; have HB1 := Aside0.mk hb1; have HG1 := Aside0.mk hg1; clear hs1 hb1 hg1 hat1))
        refine ⟨⟨m + 1, _, _, u1, _, _, _, _, _, _, _, _, _, _, _, _, _, _, _, _, _, _, _, _, _, _, _, _, _, _, _, _, _, _, _, _, _, _, _, _, _, _, rfl, by omega, ?s, HB1, ?d, ?pw⟩, ?me⟩
        case s => exact HS1
        case me => show a0.toNat + 1 - (m + 1 + 1) < a0.toNat + 1 - (m + 1); omega
        case d =>
          refine ⟨fun d hd => ?_⟩
          have hne : ∀ k, (Value.slice (some ad) (m + 1) c).ownBlock = some k → ∃ cells, wr.heap[k]? = some (.cells cells 27 (0, 0)) := Kd.S_typed HS.out
          rcases List.mem_cons.1 hd with rfl | hd
          · refine ⟨D, by have := HB.out.size; have := HDD.out; omega, rfl, ?_⟩
            rw [HG1.out.block D (lt_of_block HKD.out) (fun e => ?_)]
            · exact HKD.out
            · have := Kd.S_lt HS.out D e.symm
              have := HDD.out
              omega
          · obtain ⟨D', h1, h2, h3⟩ := HD.out d hd
            refine ⟨D', h1, h2, ?_⟩
            have h4 : W.heap[D']? = some (.deferred (some [])) := blkB HBW.out h3
            rw [HG1.out.block D' (lt_of_block h4) (fun e => ?_)]
            · exact h4
            · obtain ⟨cells, hc⟩ := hne D' e.symm
              rw [h3] at hc
              cases hc
        case pw =>
          refine ⟨List.pairwise_cons.2 ⟨fun d hd e => ?_, HP.out⟩⟩
          obtain ⟨D', h1, h2, h3⟩ := HD.out d hd
          rw [h2] at e
          injection e with e1 e2
          injection e1 with e1
          have := lt_of_block h3
          have := HDD.out
          omega
    · have hd : decide ((m : Int) + 1 ≤ a0) = false := decide_eq_false hlt
      have hma : m = a0.toNat := by omega
      have HMA := Aside0.mk hma
      clear hma hC
      go_wp2
      refine leaves_marks (fun W => Kd.S (Kd.slice 3 (Kd.int .i64)) 27 W w.heap.size (fun _ => True) (.slice A (m + 1) c) (triRows m) ∧ Below w.heap.size w W) w.heap.size ?_ ?_ ds wr ⟨HS.out, HB.out⟩ HD.out HP.out
      · rintro W D ⟨h1, h2⟩ hD h3
        refine ⟨Kd.S_mono (Kd.S_move (Kd.S_bound h1) (fun k hk => ?_)) (fun k hk => trivial), h2.trans (belowK_b (w := w) (Nat.le_refl _) W D _ _ hD h3 rfl rfl)⟩
        obtain ⟨_, _, _, q, _, cells, hc⟩ := hk
        exact World.putObj_heap_other (fun e => by subst e; rw [h3] at hc; cases hc)
      · rintro W ⟨h1, h2⟩
        exact ⟨_, results_tmp rfl _ _ _, _, rfl, by rw [← HMA.out]; exact h1, h2⟩

end Go.Proofs.Ytmigibamdeodpaa.Print
