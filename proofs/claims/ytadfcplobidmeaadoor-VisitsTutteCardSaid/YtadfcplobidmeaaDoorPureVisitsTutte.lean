/- VisitsTutte: the hats that a largest matching does not have are as many as the difference of Barrier. -/
import Derived.Test.YtadfcplobidmeaaDoorVTut
import Derived.Test.YtadfcplobidmeaaDoorVQm
import Derived.Test.YtadfcplobidmeaaDoorVMatV
import Derived.Test.YtadfcplobidmeaaDoorVHat
import Derived.Test.YtadfcplobidmeaaDoorPrintx37
namespace Go.Proofs.YtadfcplobidmeaaDoor.Pure
open Go.RowKit Go.Proofs.YtadfcplobidmeaaDoor.Print Go.Proofs.YtadfcplobidmeaaDoorW.PrintWords Go.Proofs.YtadfcplobidmeaaDoorW.PrintLast Go.Proofs.YtadfcplobidmeaaDoorW.PrintMore
theorem VisitsTutte (l : List Int) (a : Int) (p : List S43) (ha : (Lit.int .u16 a).wf = true) : ∃ k, clochelaw03_VisitsTutte.f k l a p = some true := by
  have hab := u16_range ha
  refine ⟨60001, ?_⟩
  have hj : clochelaw03_VisitsTutte.j0 60001 l a p true = some true := by
    rw [clochelaw03_VisitsTutte.j0, if_pos rfl, alive_f 60000 (by decide), Option.bind_some]
  unfold clochelaw03_VisitsTutte.f
  rw [few_f, Option.bind_some]
  by_cases h : (decide (l.length ≤ 40) && decide (p.length ≤ 40)) = true
  · have hp : l.length ≤ 40 ∧ p.length ≤ 40 := by
      rw [Bool.and_eq_true] at h
      exact ⟨of_decide_eq_true h.1, of_decide_eq_true h.2⟩
    rw [if_pos h, IsShop_f l 60001 (by decide), Option.bind_some]
    cases hs : isShop l
    · exact hj
    · have hS := (isShop_iff l).1 hs
      have hl := hS.le
      have hp2 := pow10 hl
      have h0 := Nat.two_pow_pos l.length
      obtain ⟨s, hsl, hse⟩ := tmod_set hab.1 hab.2 hl
      have hx := first_length hS
      have hx2 := nu_small hS
      obtain ⟨b1, b2, b3, b4⟩ := bar_value hS
      have b5 := b4 s hsl
      have d1 := dif_range hS (barV l).1
      have d2 := dif_range hS s
      have e3 : ((oddV l (barV l).1 : Nat) : Int) - ((sz (barV l).1 : Nat) : Int) = dif l (barV l).1 := rfl
      have e4 : ((oddV l s : Nat) : Int) - ((sz s : Nat) : Int) = dif l s := rfl
      rw [clochelaw03_VisitsTutte.j0, if_neg (by decide), vLargest_f l 60000 (by decide), Option.bind_some, vBarrier_f l 60000 (by decide), Option.bind_some]
      unfold firstV barrierV
      rw [if_pos hs, if_pos hs]
      show ((visits_Odd.f 60000 l (((barV l).1 : Nat) : Int)).bind _) = _
      rw [vOdd_at hS b2 60000 (by decide), Option.bind_some, if_neg (by rw [bShl l.length (by omega)]; omega), hse, vOdd_at hS hsl 60000 (by decide), Option.bind_some]
      show ((visits_IsMatching.f 60000 l (first1 l)).bind _) = _
      rw [vIsMatching_f l (first1 l) (by omega) 60000 (by decide), Option.bind_some]
      have eM : matV l (first1 l) = (true, 0) := by unfold matV; rw [if_pos hs, first_mat hS]
      rw [eM, if_pos rfl, if_pos rfl, if_pos rfl, if_pos rfl, if_pos rfl, if_pos rfl]
      show (if wrap64 ((l.length : Int) - (wrap64 (2 * ((first1 l).length : Int)))) = (barV l).2 then _ else _) = _
      rw [hx, w64 (z := 2 * ((nu l (full l) : Nat) : Int)) (by omega) (by omega), w64 (z := (l.length : Int) - 2 * ((nu l (full l) : Nat) : Int)) (by omega) (by omega), if_pos (by omega)]
      show ((clocheref03_Size.f 60000 (((barV l).1 : Nat) : Int)).bind _) = _
      rw [Size_f (by omega) 60000 (by decide), Option.bind_some, e3, w64 (by omega) (by omega), if_pos b3, Size_f (by omega) 60000 (by decide), Option.bind_some, e4, w64 (by omega) (by omega)]
      show clochelaw03_VisitsTutte.j1 60000 l p (first1 l) (decide (dif l s > (barV l).2)) = _
      rw [decide_eq_false (by omega), clochelaw03_VisitsTutte.j1, if_neg (by decide), vIsMatching_f l p (by omega) 59999 (by decide), Option.bind_some, alive_f 59999 (by decide), Option.bind_some]
      unfold matV
      rw [if_pos hs, if_pos rfl]
      by_cases c : isMat l p = true
      · have := mat_le hS c
        rw [if_pos c, if_pos (by omega)]
      · rw [if_neg c]
  · rw [if_neg h]
    exact hj
end Go.Proofs.YtadfcplobidmeaaDoor.Pure
