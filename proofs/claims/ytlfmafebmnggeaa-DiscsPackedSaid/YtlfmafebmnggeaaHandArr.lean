/- An array of four whole numbers: its element at an index that is worked out. -/
import Derived.Test.YtlfmafebmnggeaaProg
import Derived.Laws.EntriesVeiled
import Derived.Outline
import Derived.Below
import Derived.Deep.Draws
import Derived.Deep.AppendLies
import Derived.Maps.AppendAt
import Derived.OwnWalk
import Derived.Laws.BytesArg
import Derived.Laws.MakeOwn
import Derived.Laws.OwnMore
import Derived.Deep.OwnRows
import Derived.Tactics
import Derived.Lib.ConvBytes
import Derived.Laws.Slices
import Derived.WalkKit
import Derived.KernelRfl
import Derived.RowKit3
import Derived.Deep.LoopGhost
import Derived.Deep.QuietTactic
import Derived.BigQuiet
import Derived.WideLaws
import Derived.Deep.DeepCutAuto
import Derived.Deep.CutBlock
import Derived.Deep.RegionHeld3
import Derived.Laws.Rows
import Derived.Lib.AppendStr
import Derived.ArgAppend
import Derived.Laws.IdiomCopy
import Derived.OrdersHeld
import Derived.Laws.BitsLemmas
import Derived.RowKit
import Derived.Test.YtlfmafebmnggeaaWMore
import Derived.ChangeKeysEq
namespace Go.Proofs.Ytlfmafebmnggeaa.Print
open Go.RowKit Go.Proofs.YtlfmafebmnggeaaW.PrintWords Go.Proofs.YtlfmafebmnggeaaW.PrintLast Go.Proofs.YtlfmafebmnggeaaW.PrintMore
attribute [local go_sem] max2_int min2_int max_two min_two max_three min_three max_four min_four
set_option linter.unusedVariables false
set_option linter.unusedSimpArgs false
/-! ### an array of four whole numbers: its element at an index that is worked out -/
@[irreducible] def at4 (a b c d j : Int) : Int := if j = 0 then a else if j = 1 then b else if j = 2 then c else d
@[irreducible] def pt4 (m a j y : Int) : Int := if j = m then y else a
theorem at4_0 (a b c d : Int) : at4 a b c d 0 = a := by unfold at4; rfl
theorem at4_1 (a b c d : Int) : at4 a b c d 1 = b := by unfold at4; rfl
theorem at4_2 (a b c d : Int) : at4 a b c d 2 = c := by unfold at4; rfl
theorem at4_3 (a b c d : Int) : at4 a b c d 3 = d := by unfold at4; rfl
theorem four_of {j : Int} (h0 : 0 ≤ j) (h4 : j < 4) : j = 0 ∨ j = 1 ∨ j = 2 ∨ j = 3 := by omega
theorem blk_at4 {w : World} {g : Nat} {t : TypeId} {a b c d : Int} (h : w.heap[g]? = some (.cells #[.int .i64 a, .int .i64 b, .int .i64 c, .int .i64 d] t (0, 0))) {j : Int} (h0 : 0 ≤ j) (h4 : j < 4) : w.cell? ⟨g, j.toNat, none⟩ = some (.int .i64 (at4 a b c d j)) := by
  rcases four_of h0 h4 with rfl | rfl | rfl | rfl
  · rw [at4_0]; exact (blk_cell h 0).trans rfl
  · rw [at4_1]; exact (blk_cell h 1).trans rfl
  · rw [at4_2]; exact (blk_cell h 2).trans rfl
  · rw [at4_3]; exact (blk_cell h 3).trans rfl
theorem set4i (a b c d y j : Int) (h0 : 0 ≤ j) (h4 : j < 4) : (#[Value.int .i64 a, .int .i64 b, .int .i64 c, .int .i64 d]).setIfInBounds j.toNat (.int .i64 y) = #[.int .i64 (pt4 0 a j y), .int .i64 (pt4 1 b j y), .int .i64 (pt4 2 c j y), .int .i64 (pt4 3 d j y)] := by
  unfold pt4
  rcases four_of h0 h4 with rfl | rfl | rfl | rfl <;> rfl
/-! ### two arrays compared -/
theorem eqItems_cons {P : Program} {d : Nat} {e : TypeId} {c i : Nat} {is : List Nat} {xs ys : Array Value} {w : World} {a b : Value} {r s : Bool} (ha : (part e xs (i * c)).run P w = .ok a w) (hb : (part e ys (i * c)).run P w = .ok b w) (he : (Op.equalIn d e a b).run P w = .ok r w) (hr : (Op.eqItems d e c xs ys is).run P w = .ok s w) : (Op.eqItems d e c xs ys (i :: is)).run P w = .ok (r && s) w := by
  simp only [Op.eqItems, Sem.run_bind, ha, hb, he, Result.andThen_ok]
  cases r
  · simp
  · simpa using hr
theorem eqA4 {P : Program} {t : TypeId} (hu : P.underlying t = some (.array 4 3)) (h3 : P.underlying 3 = some (.int .i64)) (hz : ∀ w, (isAgg 3).run P w = .ok false w) {i : TypeInfo} (hi : P.info? 3 = some i) (hc : P.cellsOf 3 = 1) (d : Nat) (w : World) (x0 y0 : Int) (x1 y1 : Int) (x2 y2 : Int) (x3 y3 : Int) :
    (Op.equalIn (d + 2) t (.agg #[.int .i64 x0, .int .i64 x1, .int .i64 x2, .int .i64 x3]) (.agg #[.int .i64 y0, .int .i64 y1, .int .i64 y2, .int .i64 y3])).run P w = .ok (x0 == y0 && (x1 == y1 && (x2 == y2 && (x3 == y3)))) w := by
  rw [run_equalIn_array w (d + 1) _ _ hu hi, hc]
  show (Op.eqItems (d + 1) 3 1 _ _ [0, 1, 2, 3]).run P w = _
  have hp : ∀ (xs : Array Value) (j : Nat) (v : Value), xs[j * 1]? = some v → (part 3 xs (j * 1)).run P w = .ok v w := by
    intro xs j v h
    rw [Nat.mul_one] at h ⊢
    simp only [part, Sem.run_bind, hz, Result.andThen_ok]
    simp [h]
  have he : ∀ x y : Int, (Op.equalIn (d + 1) 3 (.int .i64 x) (.int .i64 y)).run P w = .ok (x == y) w := by
    intro x y
    simp only [Op.equalIn, Sem.run_bind, run_underlying h3, Result.andThen_ok]
    simp
  have h4 := eqItems_cons (P := P) (d := d + 1) (xs := #[.int .i64 x0, .int .i64 x1, .int .i64 x2, .int .i64 x3]) (ys := #[.int .i64 y0, .int .i64 y1, .int .i64 y2, .int .i64 y3]) (w := w) (is := []) (s := true) (hp _ 3 _ rfl) (hp _ 3 _ rfl) (he _ _) (by simp [Op.eqItems])
  rw [Bool.and_true] at h4
  exact eqItems_cons (hp _ 0 _ rfl) (hp _ 0 _ rfl) (he _ _) (eqItems_cons (hp _ 1 _ rfl) (hp _ 1 _ rfl) (he _ _) (eqItems_cons (hp _ 2 _ rfl) (hp _ 2 _ rfl) (he _ _) h4))
/-! ### an element of three numbers, as a value -/
theorem aInfo3 : (Try.prog.info? 3).map (fun i => (i.zero, i.size, i.bytes)) = some (some (.int .i64 0), 1, 8) := by kernel_rfl
theorem jdx0 (a b c : Int) (W : World) : Sem.run Try.prog (Instr.index 61 (.agg #[.int .i64 a, .int .i64 b, .int .i64 c]) (.int .i64 0)) W = .ok (.int .i64 a) W := by
  have hu61 := Try.underlying61
  have hu3 := Try.underlying3
  obtain ⟨i0, hi0, hz0, hz1, hz2⟩ := info_parts aInfo3
  simp [Instr.index, go_sem, hu61, hu3, hi0, hz1]
theorem jdx1 (a b c : Int) (W : World) : Sem.run Try.prog (Instr.index 61 (.agg #[.int .i64 a, .int .i64 b, .int .i64 c]) (.int .i64 1)) W = .ok (.int .i64 b) W := by
  have hu61 := Try.underlying61
  have hu3 := Try.underlying3
  obtain ⟨i0, hi0, hz0, hz1, hz2⟩ := info_parts aInfo3
  simp [Instr.index, go_sem, hu61, hu3, hi0, hz1]
theorem jdx2 (a b c : Int) (W : World) : Sem.run Try.prog (Instr.index 61 (.agg #[.int .i64 a, .int .i64 b, .int .i64 c]) (.int .i64 2)) W = .ok (.int .i64 c) W := by
  have hu61 := Try.underlying61
  have hu3 := Try.underlying3
  obtain ⟨i0, hi0, hz0, hz1, hz2⟩ := info_parts aInfo3
  simp [Instr.index, go_sem, hu61, hu3, hi0, hz1]

end Go.Proofs.Ytlfmafebmnggeaa.Print
