/- quad.root, walked by hand. -/
import Derived.Test.YtlfmafebmnggeaaProg
import Derived.Laws.EntriesVeiled
import Derived.Outline
import Derived.Below
import Derived.Deep.Draws
import Derived.Deep.AppendLies
import Derived.Maps.AppendAt
import Derived.OwnWalk
import Derived.Laws.BytesArg
import Derived.Laws.MakeOwn
import Derived.Laws.OwnMore
import Derived.Deep.OwnRows
import Derived.Tactics
import Derived.Lib.ConvBytes
import Derived.Laws.Slices
import Derived.WalkKit
import Derived.KernelRfl
import Derived.RowKit3
import Derived.Deep.LoopGhost
import Derived.Deep.QuietTactic
import Derived.BigQuiet
import Derived.WideLaws
import Derived.Deep.DeepCutAuto
import Derived.Deep.CutBlock
import Derived.Deep.RegionHeld3
import Derived.Laws.Rows
import Derived.Lib.AppendStr
import Derived.ArgAppend
import Derived.Laws.IdiomCopy
import Derived.OrdersHeld
import Derived.Laws.BitsLemmas
import Derived.RowKit
import Derived.Test.YtlfmafebmnggeaaWMore
import Derived.Test.YtlfmafebmnggeaaHandIs
import Derived.Test.YtlfmafebmnggeaaHandBx
import Derived.Test.YtlfmafebmnggeaaHandShelf
import Derived.Lib.SlKeysI
namespace Go.Proofs.Ytlfmafebmnggeaa.Print
open Go.RowKit Go.Proofs.YtlfmafebmnggeaaW.PrintWords Go.Proofs.YtlfmafebmnggeaaW.PrintLast Go.Proofs.YtlfmafebmnggeaaW.PrintMore
attribute [local go_sem] max2_int min2_int max_two min_two max_three min_three max_four min_four
set_option linter.unusedVariables false
set_option linter.unusedSimpArgs false
/-! ### (quad).root: function 42 -/
open Go.Shelf Go.Sort
attribute [local go_sem] idx0 idx1 idx2 idx3
def maxUp (q : Q4) : Nat → Int
  | 0 => 0
  | k + 1 => if q.at k ≥ q.at (maxUp q k) then k else maxUp q k
theorem maxUp_in (q : Q4) : ∀ k : Nat, k ≤ 4 → 0 ≤ maxUp q k ∧ maxUp q k < 4
  | 0, _ => by simp [maxUp]
  | k + 1, h => by
    have := maxUp_in q k (by omega)
    unfold maxUp
    split <;> omega
def maxAt (q : Q4) : Int := maxUp q 4
theorem idx_at (q : Q4) (k : Nat) (hk : k < 4) (W : World) : Sem.run Try.prog (Instr.index 58 (.agg #[.int .i64 q.a, .int .i64 q.b, .int .i64 q.c, .int .i64 q.d]) (.int .i64 k)) W = .ok (.int .i64 (q.at k)) W := by
  match k, hk with
  | 0, _ => exact idx0 q.a q.b q.c q.d W
  | 1, _ => exact idx1 q.a q.b q.c q.d W
  | 2, _ => exact idx2 q.a q.b q.c q.d W
  | 3, _ => exact idx3 q.a q.b q.c q.d W
theorem Bk.at {w : World} {b : Nat} {e : TypeId} {q : Q4} (h : Bk w b e q) (i : Int) (h0 : 0 ≤ i) (h4 : i < 4) : w.cell? ⟨b, i.toNat, none⟩ = some (.int .i64 (q.at i)) := by
  obtain ⟨e0, e1, e2, e3⟩ := h.cell
  have hi : i = 0 ∨ i = 1 ∨ i = 2 ∨ i = 3 := by omega
  rcases hi with rfl | rfl | rfl | rfl
  · exact e0
  · exact e1
  · exact e2
  · exact e3
theorem qInfo58 : (Try.prog.info? 58).map (fun i => (i.size)) = some 4 := by kernel_rfl
def insI (x : Int) : List Int → List Int
  | [] => [x]
  | y :: ys => if x ≤ y then x :: y :: ys else y :: insI x ys
def isort : List Int → List Int
  | [] => []
  | x :: xs => insI x (isort xs)
theorem insI_perm (x : Int) (l : List Int) : (insI x l).Perm (x :: l) := by
  induction l with
  | nil => exact List.Perm.refl _
  | cons y ys ih =>
    unfold insI
    split
    · exact List.Perm.refl _
    · exact (List.Perm.cons y ih).trans (List.Perm.swap x y ys)
theorem isort_perm (l : List Int) : (isort l).Perm l := by
  induction l with
  | nil => exact List.Perm.refl _
  | cons x xs ih => exact (insI_perm x _).trans (List.Perm.cons x ih)
theorem insI_sorted (x : Int) (l : List Int) (h : l.Pairwise (· ≤ ·)) : (insI x l).Pairwise (· ≤ ·) := by
  induction l with
  | nil => simp [insI]
  | cons y ys ih =>
    unfold insI
    have h2 := List.pairwise_cons.1 h
    split
    · rename_i hxy
      refine List.pairwise_cons.2 ⟨fun z hz => ?_, h⟩
      rcases List.mem_cons.1 hz with rfl | hz
      · exact hxy
      · exact Int.le_trans hxy (h2.1 z hz)
    · rename_i hxy
      refine List.pairwise_cons.2 ⟨fun z hz => ?_, ih h2.2⟩
      rcases List.mem_cons.1 ((insI_perm x ys).mem_iff.1 hz) with rfl | hz
      · omega
      · exact h2.1 z hz
theorem isort_sorted (l : List Int) : (isort l).Pairwise (· ≤ ·) := by
  induction l with
  | nil => exact List.Pairwise.nil
  | cons x xs ih => exact insI_sorted x _ ih
theorem mergeSort_isort (l : List Int) : l.mergeSort (fun x y => decide (x ≤ y)) = isort l := by
  have h1 : (l.mergeSort (fun x y => decide (x ≤ y))).Pairwise (· ≤ ·) := by
    have := List.pairwise_mergeSort (le := fun (x y : Int) => decide (x ≤ y)) (by simp; intro a b c; omega) (by simp; intro a b; omega) l
    simpa using this
  have hp : (l.mergeSort (fun x y => decide (x ≤ y))).Perm (isort l) := (List.mergeSort_perm _ _).trans (isort_perm l).symm
  exact hp.eq_of_pairwise (fun a b _ _ h1 h2 => Int.le_antisymm h1 h2) h1 (isort_sorted l)
def sort4 (q : Q4) : Q4 := match isort [q.a, q.b, q.c, q.d] with
  | [a, b, c, d] => ⟨a, b, c, d⟩
  | _ => q
theorem sort4_isort (q : Q4) : isort [q.a, q.b, q.c, q.d] = [(sort4 q).a, (sort4 q).b, (sort4 q).c, (sort4 q).d] := by
  have h : (isort [q.a, q.b, q.c, q.d]).length = 4 := (isort_perm _).length_eq
  unfold sort4
  generalize isort [q.a, q.b, q.c, q.d] = l at h ⊢
  match l, h with
  | [a, b, c, d], _ => rfl
theorem sort4_list (q : Q4) : [q.a, q.b, q.c, q.d].mergeSort (fun x y => decide (x ≤ y)) = [(sort4 q).a, (sort4 q).b, (sort4 q).c, (sort4 q).d] := by
  rw [mergeSort_isort, sort4_isort]
theorem Bk.holds {w : World} {b : Nat} {e : TypeId} {q : Q4} (h : Bk w b e q) : Holds (Value.int .i64) w b 0 [q.a, q.b, q.c, q.d].toArray := holds_of_block_i h rfl
theorem Bk.sorted {w : World} {b : Nat} {e : TypeId} {q : Q4} (h : Bk w b e q) (n : Nat) (os : Array Obj) : Bk (grow (putRow (Value.int .i64) (Sort.ahead w n) b 0 ([q.a, q.b, q.c, q.d].mergeSort fun x y => decide (x ≤ y)).toArray) os) b e (sort4 q) := by
  rw [sort4_list]
  refine (heap_sorted_i _ h).trans ?_
  simp [putCells]
theorem below_sorted {m : Nat} {w0 w : World} (hb : Below m w0 w) {b : Nat} (hm : m ≤ b) (hlt : b < w.heap.size) (n : Nat) (os : Array Obj) (d : Array Int) : Below m w0 (grow (putRow (Value.int .i64) (Sort.ahead w n) b 0 d) os) := by
  have hg : w.grownBy (grow (putRow encZ (Sort.ahead w n) b 0 d) os) (some b) := grownBy_sorted_i d
  refine hb.trans ⟨hg.1, hg.2, hg.3, hg.4, fun k hk => hg.block k (by omega) (fun e => ?_)⟩
  have : k = b := by simpa using e
  omega
theorem Bk.past_sorted {w : World} {g : Nat} {e : TypeId} {q : Q4} (h : Bk w g e q) {b : Nat} (hne : g ≠ b) (n : Nat) (os : Array Obj) (d : Array Int) : Bk (grow (putRow (Value.int .i64) (Sort.ahead w n) b 0 d) os) g e q := by
  have hg : w.grownBy (grow (putRow encZ (Sort.ahead w n) b 0 d) os) (some b) := grownBy_sorted_i d
  exact (hg.block g (lt_of_block h) (fun e => hne (by simpa using e))).trans h
theorem Bk.far4 {w : World} {b : Nat} {e : TypeId} {q : Q4} (h : Bk w b e q) {g : Nat} (hg : b ≠ g) (v1 v2 v3 v4 : Value) : Bk ((((w.setCell ⟨g, 0, none⟩ v1).setCell ⟨g, 1, none⟩ v2).setCell ⟨g, 2, none⟩ v3).setCell ⟨g, 3, none⟩ v4) b e q :=
  (((h.far hg v1).far hg v2).far hg v3).far hg v4
def rootL : Nat → Q4 → Int → Option (Q4 × Int)
  | 0, _, _ => none
  | n + 1, q, s => if turnedF q (maxAt q) < q.at (maxAt q) then rootL n (turnF q (maxAt q)) (wrap64 (s + 1)) else some (sort4 q, s)
set_option maxHeartbeats 4000000 in
set_option maxRecDepth 100000 in
theorem root_calls (k0 : Nat) (q : Q4) (r : Q4) (n : Int) (w : World) (h : rootL k0 q 0 = some (r, n)) :
    Calls Try.prog 42 #[agg4 q] w fun e w' => e = .returned (.tuple #[agg4 r, .int .i64 n]) ∧ Below w.heap.size w w' := by
  have H := Aside0.mk h
  obtain ⟨B1, B2, HB, HS⟩ := bx2 w q q0 58 58
  have B1 := Aside0.mk B1
  have B2 := Aside0.mk B2
  have HB := Aside0.mk HB
  clear h HS
  unfold agg4
  go_enter Try.func42, Try.ntmps42
  go_wp2
  go_loopg [4] k0 (fun kq v4 w' => ∃ (q1 : Q4) (s : Int), v4 = .int .i64 s ∧ Aside0 (rootL kq q1 s = some (r, n)) ∧ Aside0 (kq ≤ k0) ∧ Aside0 (Bk w' w.heap.size 58 q1) ∧ Aside0 (Bk w' (w.heap.size + 1) 58 q0) ∧ Aside0 (Below w.heap.size w w'))
  case atStart => exact ⟨q, 0, rfl, H, ⟨Nat.le_refl _⟩, B1, B2, HB⟩
  case round =>
    obtain ⟨q1, s, rfl, HA, HK, C1, C2, HC⟩ := hrel
    clear B1 B2 HB H
    cases gk with
    | zero => exact absurd HA.out (by simp [rootL])
    | succ k1 =>
      have H := HA.out
      clear HA
      simp only [rootL] at H
      obtain ⟨e0, e1, e2, e3⟩ := C1.out.cell
      have H := Aside0.mk H
      go_wp2
      go_loopw [5, 12] (fun v5 v12 wx => ∃ k : Nat, Aside0 (k ≤ 4) ∧ v5 = .int .i64 (maxUp q1 k) ∧ v12 = .int .i64 (k : Int) ∧ wx = wr) (fun _ v12 _ => 4 - (intOf v12).toNat)
      case atStart => exact ⟨0, ⟨by omega⟩, rfl, rfl, rfl⟩
      case round =>
        obtain ⟨k, hk, rfl, rfl, rfl⟩ := hrel
        by_cases c1 : k < 4
        · have b1 : decide ((k : Int) < 4) = true := decide_eq_true (by omega)
          have hix := fun W => idx_at q1 k c1 W
          have hin := maxUp_in q1 k hk.out
          have hat := C1.out.at _ hin.1 hin.2
          have hm : maxUp q1 (k + 1) = if q1.at k ≥ q1.at (maxUp q1 k) then (k : Int) else maxUp q1 k := rfl
          have hw : wrap64 ((k : Int) + 1) = ((k + 1 : Nat) : Int) := by unfold wrap64; omega
          have hm := Aside0.mk hm
          obtain ⟨i, hi⟩ : ∃ i, i = maxUp q1 k := ⟨_, rfl⟩
          rw [← hi] at hat hin hm ⊢
          clear hi
          obtain ⟨hi0, hi4⟩ := hin
          by_cases c2 : q1.at k ≥ q1.at i
          · have b2 : decide (q1.at k ≥ q1.at i) = true := decide_eq_true c2
            have hm2 := hm.out
            rw [if_pos c2] at hm2
            have hm2 := Aside0.mk hm2
            clear hm c2
            go_wp2
            go_roundw
            case rel => exact ⟨k + 1, ⟨by omega⟩, by rw [hm2.out], by first | rfl | trivial, by first | rfl | trivial⟩
            case measure => simp [intOf]; omega
          · have b2 : decide (q1.at k ≥ q1.at i) = false := decide_eq_false c2
            have hm2 := hm.out
            rw [if_neg c2] at hm2
            have hm2 := Aside0.mk hm2
            clear hm c2
            go_wp2
            go_roundw
            case rel => exact ⟨k + 1, ⟨by omega⟩, by rw [hm2.out], by first | rfl | trivial, by first | rfl | trivial⟩
            case measure => simp [intOf]; omega
        · have b1 : decide ((k : Int) < 4) = false := decide_eq_false (by omega)
          obtain rfl : k = 4 := by have := hk.out; omega
          have hin := maxUp_in q1 4 (Nat.le_refl 4)
          have hat := C1.out.at _ hin.1 hin.2
          have H := H.out
          unfold maxAt at H
          obtain ⟨i, hi⟩ : ∃ i, i = maxUp q1 4 := ⟨_, rfl⟩
          rw [← hi] at hat hin H ⊢
          clear hi hk
          obtain ⟨hi0, hi4⟩ := hin
          have HT := Aside0.mk (fun w' => turned_calls q1 i hi0 hi4 w')
          have HG := Aside0.mk (fun w' => turn_calls q1 i hi0 hi4 w')
          unfold agg4 at HT HG
          by_cases c2 : turnedF q1 i < q1.at i
          · rw [if_pos c2] at H
            have b2 : decide (turnedF q1 i < q1.at i) = true := decide_eq_true c2
            have H := Aside0.mk H
            clear c2
            obtain ⟨e0, e1, e2, e3⟩ := C1.out.cell
            go_wp2
            go_region_with (first | (go_at_call 51; refine (HT.out _).mono ?_; rintro e w5 ⟨rfl, hb⟩; replace hb : Below wr.heap.size wr w5 := (below_drew1 (Below.refl wr.heap.size wr)).trans hb; obtain ⟨D1, D2, HD⟩ : Bk w5 w.heap.size 58 q1 ∧ Bk w5 (w.heap.size + 1) 58 q0 ∧ Below w.heap.size w w5 := ⟨Bk.below C1.out hb, Bk.below C2.out hb, HC.out.trans (hb.mono HC.out.size)⟩; have hat2 := Bk.at D1 i hi0 hi4; obtain ⟨g0, g1, g2, g3⟩ := D1.cell; have m0 := D1.free 0; have m1 := D1.free 1; have m2 := D1.free 2; have m3 := D1.free 3; have D1 := Aside0.mk D1; have D2 := Aside0.mk D2; have HD := Aside0.mk HD; clear hb))
            all_goals (
              go_wp2_with (first | (go_at_call 52; refine (HG.out _).mono ?_; rintro e w6 ⟨rfl, hb⟩; obtain ⟨E1, E2, HE⟩ : Bk w6 w.heap.size 58 q1 ∧ Bk w6 (w.heap.size + 1) 58 q0 ∧ Below w.heap.size w w6 := ⟨Bk.below D1.out hb, Bk.below D2.out hb, HD.out.trans (hb.mono HD.out.size)⟩; clear D1 D2 HD hb g0 g1 g2 g3 m0 m1 m2 m3 hat2; obtain ⟨g0, g1, g2, g3⟩ := E1.cell; have m0 := E1.free 0; have m1 := E1.free 1; have m2 := E1.free 2; have m3 := E1.free 3; have E1 := Aside0.mk E1; have E2 := Aside0.mk E2; have HE := Aside0.mk HE))
              go_roundg k1
              case measure => have := HK.out; omega
              case rel => exact ⟨turnF q1 i, wrap64 (s + 1), rfl, H, ⟨by have := HK.out; omega⟩, ⟨E1.out.fill _⟩, ⟨E2.out.far4 (Nat.succ_ne_self _) _ _ _ _⟩, ⟨below_fill HE.out (Nat.le_refl _) _⟩⟩)
          · rw [if_neg c2] at H
            have b2 : decide (turnedF q1 i < q1.at i) = false := decide_eq_false c2
            have H := Option.some.inj H
            obtain ⟨hr, rfl⟩ : r = sort4 q1 ∧ n = s := ⟨(congrArg Prod.fst H).symm, (congrArg Prod.snd H).symm⟩
            have hr := Aside0.mk hr
            clear c2 H
            obtain ⟨e0, e1, e2, e3⟩ := C1.out.cell
            have HZ := Aside0.mk (fun w' (h : Bk w' w.heap.size 58 q1) => Try.slices_Sort_int w.heap.size 0 4 [q1.a, q1.b, q1.c, q1.d] w' h.holds (lt_of_block h) (by simp))
            go_wp2
            go_region_with (first | (go_at_call 51; refine (HT.out _).mono ?_; rintro e w5 ⟨rfl, hb⟩; replace hb : Below wr.heap.size wr w5 := (below_drew1 (Below.refl wr.heap.size wr)).trans hb; obtain ⟨D1, D2, HD⟩ : Bk w5 w.heap.size 58 q1 ∧ Bk w5 (w.heap.size + 1) 58 q0 ∧ Below w.heap.size w w5 := ⟨Bk.below C1.out hb, Bk.below C2.out hb, HC.out.trans (hb.mono HC.out.size)⟩; have hat2 := Bk.at D1 i hi0 hi4; obtain ⟨g0, g1, g2, g3⟩ := D1.cell; have m0 := D1.free 0; have m1 := D1.free 1; have m2 := D1.free 2; have m3 := D1.free 3; have D1 := Aside0.mk D1; have D2 := Aside0.mk D2; have HD := Aside0.mk HD; clear hb))
            all_goals (
              go_wp2_with (first | (go_at_call 46; refine (HZ.out _ D1.out).mono ?_; rintro e w6 ⟨rfl, nn, os, rfl⟩; have E1 := D1.out.sorted nn os; have E2 := D2.out.past_sorted (Nat.succ_ne_self _) nn os ([q1.a, q1.b, q1.c, q1.d].mergeSort fun x y => decide (x ≤ y)).toArray; have HE := below_sorted HD.out (Nat.le_refl _) (lt_of_block D1.out) nn os ([q1.a, q1.b, q1.c, q1.d].mergeSort fun x y => decide (x ≤ y)).toArray; rw [← hr.out] at E1; generalize grow (putRow (Value.int IntKind.i64) (Sort.ahead w5 nn) w.heap.size 0 ([q1.a, q1.b, q1.c, q1.d].mergeSort fun x y => decide (x ≤ y)).toArray) os = w7 at E1 E2 HE ⊢; clear D1 D2 HD g0 g1 g2 g3 m0 m1 m2 m3 hat2; obtain ⟨g0, g1, g2, g3⟩ := E1.cell; obtain ⟨l0, l1, l2, l3⟩ := E2.cell; have m0 := E2.free 0; have m1 := E2.free 1; have m2 := E2.free 2; have m3 := E2.free 3; have E1 := Aside0.mk E1; have E2 := Aside0.mk E2; have HE := Aside0.mk HE))
              refine bodyPost_ret (hres_ct rfl _ _ (w.heap.size + 1) 58 _ (0, 0) _ rfl (E2.out.fill (sort4 q1)) Try.underlying58 rfl (by kernel_rfl)) rfl ?_
              exact ⟨by rw [hr.out]; rfl, below_fill HE.out (Nat.le_succ _) _⟩)
/-! ### the contract as the printed texts want it -/
theorem rootL_mono : ∀ (k : Nat) (q : Q4) (s : Int), LeO (rootL k q s) (rootL (k + 1) q s)
  | 0, q, s => fun r h => by simp [rootL] at h
  | k + 1, q, s => by
    rw [rootL, rootL]
    exact LeO.ite (rootL_mono k _ _) (LeO.refl _)
def discs_quad_root.f (k : Nat) (a0_0 : Int) (a0_1 : Int) (a0_2 : Int) (a0_3 : Int) : Option (Int × Int × Int × Int × Int) := (rootL k ⟨a0_0, a0_1, a0_2, a0_3⟩ 0).bind fun p => some (p.1.a, p.1.b, p.1.c, p.1.d, p.2)
theorem discs_quad_root.mono : ∀ a0 a1 a2 a3 k, LeO (discs_quad_root.f k a0 a1 a2 a3) (discs_quad_root.f (k + 1) a0 a1 a2 a3) := by
  intro a0 a1 a2 a3 k
  exact LeO.bind (rootL_mono _ _ _) (fun _ => LeO.refl _)
theorem discs_quad_root.calls (k : Nat) (a0_0 : Int) (a0_1 : Int) (a0_2 : Int) (a0_3 : Int) (r1 : Int) (r2 : Int) (r3 : Int) (r4 : Int) (r5 : Int) (w : World) (h : discs_quad_root.f k a0_0 a0_1 a0_2 a0_3 = some (r1, r2, r3, r4, r5)) :
    Calls Try.prog 42 #[.agg #[.int .i64 a0_0, .int .i64 a0_1, .int .i64 a0_2, .int .i64 a0_3]] w fun e w' => e = .returned (.tuple #[.agg #[.int .i64 r1, .int .i64 r2, .int .i64 r3, .int .i64 r4], .int .i64 r5]) ∧ Below w.heap.size w w' := by
  unfold discs_quad_root.f at h
  obtain ⟨⟨q, n⟩, hp, h⟩ := Option.bind_eq_some_iff.mp h
  simp only [Option.some.injEq, Prod.mk.injEq] at h
  obtain ⟨rfl, rfl, rfl, rfl, rfl⟩ := h
  exact root_calls k ⟨a0_0, a0_1, a0_2, a0_3⟩ q n w hp

end Go.Proofs.Ytlfmafebmnggeaa.Print
