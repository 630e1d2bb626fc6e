/- VisitsGames: Wins and Move are the specification's. -/
import Derived.Test.YtadfcplobidmeaaDoorVKnown
import Derived.Test.YtadfcplobidmeaaDoorPrintx19
namespace Go.Proofs.YtadfcplobidmeaaDoor.Pure
open Go.RowKit Go.Proofs.YtadfcplobidmeaaDoor.Print Go.Proofs.YtadfcplobidmeaaDoorW.PrintWords Go.Proofs.YtadfcplobidmeaaDoorW.PrintLast Go.Proofs.YtadfcplobidmeaaDoorW.PrintMore
def winsV (l : List Int) (a1 a2 : Int) : Bool × Int := if askB l a1 a2 = true then (gw l a1.toNat a2.toNat, 0) else (false, 2)
theorem vWins_f (l : List Int) (a1 a2 : Int) (k : Nat) (hk : 50000 ≤ k) : visits_Wins.f k l a1 a2 = some (winsV l a1 a2) := by
  unfold visits_Wins.f winsV
  rw [asked_f l a1 a2 k (by omega), Option.bind_some]
  cases h : askB l a1 a2
  · rw [if_neg (by decide), if_neg (by decide)]
  · obtain ⟨hS, V, x, rfl, rfl, hV, hx, hb⟩ := askB_at h
    rw [if_pos rfl, if_pos rfl, wins_f hS V x k hV hx (by omega), Option.bind_some, Int.toNat_natCast, Int.toNat_natCast]
theorem len_ok {l : List Int} (hS : Shop l) : 2 ^ l.length * l.length ≤ 10240 := Nat.mul_le_mul (pow10 hS.le) hS.le
theorem rWins_f (l : List Int) (a1 a2 : Int) (k : Nat) (hk : 50000 ≤ k) : clocheref03_Wins.f k l a1 a2 = some (winsV l a1 a2) := by
  unfold clocheref03_Wins.f winsV
  rw [rasked_f l a1 a2 k (by omega), Option.bind_some]
  cases h : askB l a1 a2
  · rw [if_neg (by decide), if_neg (by decide), if_neg (by decide)]
  · obtain ⟨hS, V, x, rfl, rfl, hV, hx, hb⟩ := askB_at h
    have ho := len_ok hS
    rw [if_pos rfl, if_pos rfl, if_pos rfl, shl_len hS, if_pos (Int.natCast_nonneg _), Int.toNat_natCast, if_pos (Nat.le_trans ho (by decide))]
    obtain ⟨M', e1, _, _⟩ := known_f hS V x hV hx (List.replicate (2 ^ l.length * l.length) 0) List.length_replicate (good_new _ _) k (by omega)
    rw [e1, Option.bind_some, Int.toNat_natCast, Int.toNat_natCast]
def mv2 (z : Int) : Int × Int := if z ≥ 0 then (z, 0) else (0, 10)
def moveV (l : List Int) (a1 a2 : Int) : Int × Int := if askB l a1 a2 = true then mv2 (firstI (cw l a1.toNat a2.toNat) 0 l.length) else (0, 2)
theorem vMove_f (l : List Int) (a1 a2 : Int) (k : Nat) (hk : 50000 ≤ k) : visits_Move.f k l a1 a2 = some (moveV l a1 a2) := by
  unfold visits_Move.f moveV
  rw [asked_f l a1 a2 k (by omega), Option.bind_some]
  cases h : askB l a1 a2
  · rw [if_neg (by decide), if_neg (by decide)]
  · obtain ⟨hS, V, x, rfl, rfl, hV, hx, hb⟩ := askB_at h
    rw [if_pos rfl, if_pos rfl, move_f hS V x k hV hx (by omega), Option.bind_some, Int.toNat_natCast, Int.toNat_natCast]
    unfold mv2
    split <;> rfl
theorem rMove_l0 {l : List Int} (hS : Shop l) (V x : Nat) (hV : V < 2 ^ l.length) (hx : x < l.length) : ∀ (m j k : Nat) (M : List Int), j + m = l.length → 45000 + m + 1 ≤ k → M.length = 2 ^ l.length * l.length → Good l M 0 →
    clocheref03_Move.l0 k l (V : Int) (x : Int) M (j : Int) = some (mv2 (firstI (cw l V x) j m))
  | 0, j, k, M, hj, hk, hM, hG => by
    obtain ⟨k, rfl, _⟩ := succK (show 0 < k by omega)
    simp only [clocheref03_Move.l0, firstI]
    rw [if_neg (by omega)]
    rfl
  | m + 1, j, k, M, hj, hk, hM, hG => by
    obtain ⟨k, rfl, _⟩ := succK (show 0 < k by omega)
    have hl := hS.le
    simp only [clocheref03_Move.l0]
    rw [if_pos (by omega), if_pos (by omega), if_pos (by omega), if_pos (by omega), testT hS V x j hV hx (by omega), orI hS V j hV (by omega), inc64 j (by omega),
      rMove_l0 hS V x hV hx m (j + 1) k M (by omega) (by omega) hM hG]
    simp only [firstI]
    by_cases c : (adj l x j && !V.testBit j) = true
    · obtain ⟨M', e1, e2, e3⟩ := known_f hS (V ||| 2 ^ j) j (or_lt hV (by omega)) (by omega) M hM hG k (by omega)
      have e : cw l V x j = !gw l (V ||| 2 ^ j) j := by unfold cw; rw [c, Bool.true_and]
      rw [if_pos ((tn1 _).2 c), e1, Option.bind_some, e]
      simp only []
      rw [rMove_l0 hS V x hV hx m (j + 1) k M' (by omega) (by omega) e2 e3]
      cases gw l (V ||| 2 ^ j) j
      · rw [if_neg (by decide), if_pos (by decide)]
        unfold mv2
        rw [if_pos (Int.natCast_nonneg _)]
      · rw [if_pos rfl, if_neg (by decide)]
    · have e : cw l V x j = false := by unfold cw; rw [Bool.eq_false_iff.2 c, Bool.false_and]
      rw [if_neg (fun h => c ((tn1 _).1 h)), e, if_neg (by decide)]
theorem rMove_f (l : List Int) (a1 a2 : Int) (k : Nat) (hk : 50000 ≤ k) : clocheref03_Move.f k l a1 a2 = some (moveV l a1 a2) := by
  unfold clocheref03_Move.f moveV
  rw [rasked_f l a1 a2 k (by omega), Option.bind_some]
  cases h : askB l a1 a2
  · rw [if_neg (by decide), if_neg (by decide), if_neg (by decide)]
  · obtain ⟨hS, V, x, rfl, rfl, hV, hx, hb⟩ := askB_at h
    have ho := len_ok hS
    have hl := hS.le
    rw [if_pos rfl, if_pos rfl, if_pos rfl, shl_len hS, if_pos (Int.natCast_nonneg _), Int.toNat_natCast, if_pos (Nat.le_trans ho (by decide))]
    have := rMove_l0 hS V x hV hx l.length 0 k (List.replicate (2 ^ l.length * l.length) 0) (by omega) (by omega) List.length_replicate (good_new _ _)
    rw [show ((0 : Nat) : Int) = 0 from rfl] at this
    rw [this, Int.toNat_natCast, Int.toNat_natCast]
theorem few0 (l : List Int) : clochelaw03_few.f l [] = some (decide (l.length ≤ 40)) := by
  unfold clochelaw03_few.f
  by_cases h : l.length ≤ 40
  · rw [if_pos (by omega), decide_eq_true h]
    rfl
  · rw [if_neg (by omega), decide_eq_false h]
theorem VisitsGames : clochelaw03_VisitsGames.Pure := by
  intro l a1 a2 _ _ _ _ _
  refine ⟨50001, ?_⟩
  unfold clochelaw03_VisitsGames.f
  rw [few0, Option.bind_some, alive_f 50001 (by decide), Option.bind_some]
  by_cases h : l.length ≤ 40
  · rw [if_pos (decide_eq_true h), vWins_f l a1 a2 50001 (by decide), Option.bind_some, rWins_f l a1 a2 50001 (by decide), Option.bind_some]
    have e1 : ((winsV l a1 a2).1 != (winsV l a1 a2).1) = false := by cases (winsV l a1 a2).1 <;> rfl
    have e2 : ((winsV l a1 a2).2 != (winsV l a1 a2).2) = false := by simp
    rw [e1, e2, if_neg (by decide)]
    show clochelaw03_VisitsGames.j0 (50000 + 1) l a1 a2 false = some true
    simp only [clochelaw03_VisitsGames.j0]
    rw [if_neg (by decide), vMove_f l a1 a2 50000 (by decide), Option.bind_some, rMove_f l a1 a2 50000 (by decide), Option.bind_some, if_pos rfl, if_pos rfl, alive_f 50000 (by decide)]
    rfl
  · rw [if_neg (fun c => h (of_decide_eq_true c))]
end Go.Proofs.YtadfcplobidmeaaDoor.Pure
