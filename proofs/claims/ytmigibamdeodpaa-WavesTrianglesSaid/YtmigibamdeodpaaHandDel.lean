/- slices.Delete of one element: the contract in the form of the kit's own delete. -/
import Derived.Test.YtmigibamdeodpaaProg
import Derived.Laws.EntriesVeiled
import Derived.Outline
import Derived.Below
import Derived.Deep.Draws
import Derived.Deep.AppendLies
import Derived.Maps.AppendAt
import Derived.OwnWalk
import Derived.Laws.BytesArg
import Derived.Laws.MakeOwn
import Derived.Laws.OwnMore
import Derived.Deep.OwnRows
import Derived.Tactics
import Derived.Lib.ConvBytes
import Derived.Laws.Slices
import Derived.WalkKit
import Derived.KernelRfl
import Derived.RowKit3
import Derived.Deep.LoopGhost
import Derived.Deep.QuietTactic
import Derived.BigQuiet
import Derived.WideLaws
import Derived.Deep.DeepCutAuto
import Derived.Deep.CutBlock
import Derived.Deep.RegionHeld3
import Derived.Laws.Rows
import Derived.Lib.AppendStr
import Derived.ArgAppend
import Derived.Laws.IdiomCopy
import Derived.OrdersHeld
import Derived.Laws.BitsLemmas
import Derived.RowKit
import Derived.Test.YtmigibamdeodpaaWWords
import Derived.Test.YtmigibamdeodpaaWLast
import Derived.Test.YtmigibamdeodpaaWTab
import Derived.Test.YtmigibamdeodpaaWQPut
import Derived.Test.YtmigibamdeodpaaWApart
import Derived.Test.YtmigibamdeodpaaWArr
import Derived.Test.YtmigibamdeodpaaWZeros
import Derived.Test.YtmigibamdeodpaaWFoot
import Derived.Test.YtmigibamdeodpaaWKept
import Derived.Test.YtmigibamdeodpaaWShare
import Derived.Test.YtmigibamdeodpaaWN
import Derived.Test.YtmigibamdeodpaaWRepsOne
import Derived.Test.YtmigibamdeodpaaWGuard
import Derived.Test.YtmigibamdeodpaaWNEv
import Derived.Test.YtmigibamdeodpaaWMore
import Derived.Lib.SlKeysI
import Derived.Maps.AppendAt
import Derived.RangeFuncBox
import Derived.RangeFuncLeaves
import Derived.RangeFuncNested
import Derived.RangeFuncBound
import Derived.RangeFuncCalls
import Derived.Shelf.Abstract
import Derived.OwnWalkIn
import Derived.TacticsInMore
import Derived.LoopNIn
import Derived.LoopIn
import Derived.OrdersIn
import Derived.Test.YtmigibamdeodpaaHandSnoc
namespace Go.Proofs.Ytmigibamdeodpaa.Print
open Go.RowKit Go.Proofs.YtmigibamdeodpaaW.PrintWords Go.Proofs.YtmigibamdeodpaaW.PrintLast Go.Proofs.YtmigibamdeodpaaW.PrintMore
attribute [local go_sem] max2_int min2_int max_two min_two max_three min_three max_four min_four
set_option linter.unusedVariables false
set_option linter.unusedSimpArgs false
open Go.Shelf
open Go.Shelf Go.Sort
attribute [local go_sem] Oper.semAt_some
/-! ### slices.Delete(l, k, k + 1) of a row of the call's own, as the print's own delete leaves it -/
theorem delR {W w0 : World} {base g n c : Nat} {xs : List Int} {ok : Nat → Prop} {H J : Int} (HO : Kd.R (Kd.int .i64) 3 W base ok (.slice (some ⟨g, 0, none⟩) n c) xs) (h0 : 0 ≤ H) (hJ : J = H + 1) (hk : J ≤ n) (HB : Below base w0 W) (hbase : base ≤ W.heap.size) :
    Calls Try.prog 49 #[.slice (some ⟨g, 0, none⟩) n c, .int .i64 H, .int .i64 J] W fun e w1 => e = .returned (.slice (some ⟨g, 0, none⟩) (n - 1) c) ∧ Kd.R (Kd.int .i64) 3 w1 base ok (.slice (some ⟨g, 0, none⟩) (n - 1) c) (xs.eraseIdx H.toNat) ∧ Below base w0 w1 ∧ W.grownBy w1 (some g) := by
  obtain ⟨i, rfl⟩ := Int.eq_ofNat_of_zero_le h0
  subst hJ
  obtain ⟨hn, hnc, _⟩ := Kd.R_reads' HO
  subst hn
  rw [Int.toNat_natCast]
  have hp : 0 < xs.length := by omega
  obtain ⟨g', cap, cur, hv, hg, hh, r1, r2, r3, r4⟩ := rowBlock (xs := xs) (Kd.own_of_R HO) hp
  injection hv with ha _ hc
  injection ha with ha
  injection ha with ha
  subst ha; subst hc
  have hj : i + 1 ≤ xs.length := by omega
  have hP : ok g := HO.1 g rfl
  refine (Try.slices_Delete_int g 0 c i (i + 1) xs W (holds_of_block_i hh r4) r1 r2 (by omega) hj).mono ?_
  rintro e w' ⟨rfl, q, rfl⟩
  have hsub : i + 1 - i = 1 := by omega
  rw [hsub]
  have hl : (xs.take i ++ xs.drop (i + 1) ++ List.replicate 1 0).length = xs.length := by simp; omega
  have ho : World.ownsRow (grow (putRow encZ (Sort.ahead W q) g 0 (xs.take i ++ xs.drop (i + 1) ++ List.replicate 1 0).toArray) #[]) base 3 1 (.slice (some ⟨g, 0, none⟩) xs.length c) xs.length ((xs.take i ++ xs.drop (i + 1) ++ List.replicate 1 0).map encZ) := ownsRow_sorted_i hl hg hh r1 r2 r3
  have hgr : W.grownBy (grow (putRow encZ (Sort.ahead W q) g 0 (xs.take i ++ xs.drop (i + 1) ++ List.replicate 1 0).toArray) #[]) (some g) := grownBy_sorted_i _
  have ho2 : World.ownsRow (grow (putRow encZ (Sort.ahead W q) g 0 (xs.take i ++ xs.drop (i + 1) ++ List.replicate 1 0).toArray) #[]) base 3 1 (.slice (some ⟨g, 0, none⟩) (xs.take i ++ xs.drop (i + 1) ++ List.replicate 1 0).length c) (xs.take i ++ xs.drop (i + 1) ++ List.replicate 1 0).length ((xs.take i ++ xs.drop (i + 1) ++ List.replicate 1 0).map encZ) := by
    rw [hl]
    exact ho
  have hok : ∀ k, (Value.slice (some ⟨g, 0, none⟩) (xs.take i ++ xs.drop (i + 1) ++ List.replicate 1 0).length c).ownBlock = some k → ok k := by
    intro k hk
    have e : g = k := by simpa [Value.ownBlock] using hk
    subst e
    exact hP
  have hR : (Kd.int .i64).R 3 (grow (putRow encZ (Sort.ahead W q) g 0 (xs.take i ++ xs.drop (i + 1) ++ List.replicate 1 0).toArray) #[]) base ok (.slice (some ⟨g, 0, none⟩) (xs.take i ++ xs.drop (i + 1) ++ List.replicate 1 0).length c) (xs.take i ++ xs.drop (i + 1) ++ List.replicate 1 0) := Kd.R_of_own ho2 hok
  have hgw : grow (putRow encZ (Sort.ahead W q) g 0 (xs.take i ++ xs.drop (i + 1) ++ List.replicate 1 0).toArray) #[] = putRow (Value.int .i64) (Sort.ahead W q) g 0 (xs.take i ++ xs.drop (i + 1) ++ List.replicate 1 0).toArray := by
    exact grow_empty _
  rw [hgw] at hR hgr
  have hT := Kd.R_take (m := xs.length - 1) hR (by rw [hl]; omega)
  have hrow : ∀ k, some g = some k → base ≤ k := by
    intro k e
    injection e with e
    omega
  refine ⟨rfl, ?_, HB.grown hgr hbase hrow, hgr⟩
  have he : (xs.take i ++ xs.drop (i + 1) ++ List.replicate 1 0).take (xs.length - 1) = xs.eraseIdx i := by
    rw [List.take_append_of_le_length (by simp; omega), List.take_of_length_le (by simp; omega), List.eraseIdx_eq_take_drop_succ]
  rw [he] at hT
  exact hT
theorem placeWrap {t u : Int} {o : Option Int} (h : o.bind (fun t => some (wrap64 (t + 1))) = some u) (h2 : o.bind (fun t => some (wrap64 (t + 1))) = some t) : t = u ∧ wrap64 (wrap64 (t - 1) + 1) = t := by
  obtain ⟨a, ha, rfl⟩ := Option.map_eq_some_iff.1 (show o.map (fun t => wrap64 (t + 1)) = some u by cases o with | none => simp at h | some z => simpa using h)
  obtain ⟨b, hb, rfl⟩ := Option.map_eq_some_iff.1 (show o.map (fun t => wrap64 (t + 1)) = some t by cases o with | none => simp at h2 | some z => simpa using h2)
  rw [ha] at hb
  cases hb
  refine ⟨rfl, ?_⟩
  unfold wrap64
  omega

end Go.Proofs.Ytmigibamdeodpaa.Print
