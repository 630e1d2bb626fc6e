/- VisitsLess: the game with more hats visited is that of the shop without them. -/
import Derived.Test.YtadfcplobidmeaaDoorVWith
import Derived.Test.YtadfcplobidmeaaDoorVWins
import Derived.Test.YtadfcplobidmeaaDoorVHat
import Derived.Test.YtadfcplobidmeaaDoorVMatch
import Derived.Test.YtadfcplobidmeaaDoorPrintx20
namespace Go.Proofs.YtadfcplobidmeaaDoor.Pure
open Go.RowKit Go.Proofs.YtadfcplobidmeaaDoor.Print Go.Proofs.YtadfcplobidmeaaDoorW.PrintWords Go.Proofs.YtadfcplobidmeaaDoorW.PrintLast Go.Proofs.YtadfcplobidmeaaDoorW.PrintMore
theorem move_at {l : List Int} (hS : Shop l) {V x : Nat} (hV : V < 2 ^ l.length) (hx : x < l.length) (hb : V.testBit x = true) (k : Nat) (hk : 30000 ≤ k) :
    visits_Move.f k l (V : Int) (x : Int) = some (if firstI (cw l V x) 0 l.length ≥ 0 then (firstI (cw l V x) 0 l.length, 0) else (0, 10)) := by
  unfold visits_Move.f
  rw [asked_f l _ _ k (by omega), Option.bind_some, askB_mk hS hV hx hb, if_pos rfl, move_f hS V x k hV hx hk, Option.bind_some]
  split <;> rfl
theorem small_gw {l : List Int} (hS : Shop l) {v last : Nat} (hv : v < 2 ^ l.length) (hl : last < l.length) (hb : v.testBit last = true) :
    (∃ i, i < l.length ∧ (sd v (2 ^ last)).testBit i = false) ∧ gw (small l (sd v (2 ^ last))) (2 ^ rk (sd v (2 ^ last)) last) (rk (sd v (2 ^ last)) last) = gw l v last := by
  have hs0 : (sd v (2 ^ last)).testBit last = false := by rw [sd_bit, pow_bit]; simp
  have hex : ∃ i, i < l.length ∧ (sd v (2 ^ last)).testBit i = false := ⟨last, hl, hs0⟩
  have hS2 := small_shop hS hex
  have hlen := small_len l (sd v (2 ^ last))
  have hat := rk_lt hs0 hl
  have sb : ∀ i, (sd v (2 ^ last)).testBit i = (v.testBit i && !decide (last = i)) := fun i => by rw [sd_bit, pow_bit]
  refine ⟨hex, ?_⟩
  generalize hat0 : rk (sd v (2 ^ last)) last = at0 at hat ⊢
  generalize hs : sd v (2 ^ last) = s at hs0 hex hS2 hlen hat sb hat0 ⊢
  have hat1 : at0 < (small l s).length := by omega
  have p0 : 2 ^ at0 < 2 ^ (small l s).length := Nat.pow_lt_pow_right (by decide) hat1
  have g1 := gw_need hS (2 ^ l.length) v last (Nat.le_add_left _ _) hv hl hb
  have g2 := gw_need hS2 (2 ^ (small l s).length) (2 ^ at0) at0 (Nat.le_add_left _ _) p0 hat1 (by rw [pow_bit]; simp)
  have u1 : sd (full l) v < 2 ^ l.length := Nat.lt_of_le_of_lt (sd_le _ _) (full_lt l)
  have u2 : sd (full (small l s)) (2 ^ at0) < 2 ^ (small l s).length := Nat.lt_of_le_of_lt (sd_le _ _) (full_lt _)
  have key : ∀ i, i < l.length → s.testBit i = false → (sd (full (small l s)) (2 ^ at0)).testBit (rk s i) = (sd (full l) v).testBit i := fun i hi hsi => by
    have h1 := rk_lt hsi hi
    rw [sd_bit, full_bit, pow_bit, sd_bit, full_bit, hlen, decide_eq_true h1, decide_eq_true hi, Bool.true_and, Bool.true_and]
    have h2 := sb i
    rw [hsi] at h2
    by_cases c : last = i
    · subst c
      rw [hb, decide_eq_true hat0.symm]
    · rw [decide_eq_false c, Bool.not_false, Bool.and_true] at h2
      rw [← h2, decide_eq_false (fun e => c (rk_inj hs0 hsi (hat0.trans e)))]
  have hlt : ∀ i, (sd (full l) v).testBit i = true → s.testBit i = false := fun i hi => by
    rw [sd_bit, Bool.and_eq_true, Bool.not_eq_true'] at hi
    rw [sb, hi.2]; rfl
  have n1 := small_nu hS hex u1 u2 hlt key
  have n2 := small_nu hS hex (T := sd (full l) v ||| 2 ^ last) (T' := sd (full (small l s)) (2 ^ at0) ||| 2 ^ at0) (or_lt u1 hl) (or_lt u2 hat1) (fun i hi => by
    rw [or_bit] at hi
    by_cases c : last = i
    · subst c; exact hs0
    · rw [decide_eq_false c, Bool.or_false] at hi
      exact hlt i hi) (fun i hi hsi => by
    rw [or_bit, or_bit, key i hi hsi]
    by_cases c : last = i
    · subst c; rw [decide_eq_true hat0.symm, decide_eq_true rfl]
    · rw [decide_eq_false c, decide_eq_false (fun e => c (rk_inj hs0 hsi (hat0.trans e)))])
  rw [n1, n2] at g2
  exact bEq (g2.trans g1.symm)
theorem less_l0 {l : List Int} (v last : Nat) (hl10 : last ≤ 10) (sm : List Int) (r : Bool) (F : Nat)
    (hv : ∀ k, F ≤ k → clochelaw03_VisitsLess.l0 k l (l.length : Int) (last : Int) (v : Int) sm ((rk (sd v (2 ^ last)) last : Nat) : Int) (last : Int) = some r) :
    ∀ (m j k : Nat), j + m = last → F + m ≤ k → clochelaw03_VisitsLess.l0 k l (l.length : Int) (last : Int) (v : Int) sm ((rk (sd v (2 ^ last)) j : Nat) : Int) (j : Int) = some r
  | 0, j, k, hj, hk => by
    obtain rfl : j = last := by omega
    exact hv k (by omega)
  | m + 1, j, k, hj, hk => by
    obtain ⟨k, rfl, _⟩ := succK (show 0 < k by omega)
    have hrk := rk_le (sd v (2 ^ last)) j
    have hrec := less_l0 v last hl10 sm r F hv m (j + 1) k (by omega) (by omega)
    have e : (sd v (2 ^ last)).testBit j = v.testBit j := by rw [sd_bit, pow_bit, decide_eq_false (show ¬ last = j by omega)]; simp
    simp only [rk] at hrec
    rw [e] at hrec
    rw [clochelaw03_VisitsLess.l0, if_pos (by omega), if_pos (by omega), bitT v j (by omega), inc64 j (by omega), inc64 (rk (sd v (2 ^ last)) j) (by omega)]
    cases c : v.testBit j
    · rw [c, if_neg (by decide)] at hrec
      rw [if_pos (by decide)]
      exact hrec
    · rw [c, if_pos (by decide)] at hrec
      rw [if_neg (by decide)]
      exact hrec
theorem VisitsLess : clochelaw03_VisitsLess.Pure := by
  intro l a b _ _ _ ha hb
  have hab := u16_range ha
  have hbb := u8_range hb
  refine ⟨60001, ?_⟩
  have hj : clochelaw03_VisitsLess.j0 60001 l a b true = some true := by
    rw [clochelaw03_VisitsLess.j0, if_pos rfl, alive_f 60000 (by decide), Option.bind_some]
  unfold clochelaw03_VisitsLess.f
  rw [few_f, Option.bind_some]
  by_cases h : (decide (l.length ≤ 40) && decide (([] : List S43).length ≤ 40)) = true
  · rw [if_pos h, IsShop_f l 60001 (by decide), Option.bind_some]
    cases hs : isShop l
    · exact hj
    · have hS := (isShop_iff l).1 hs
      have hl := hS.le
      have hp := pow10 hl
      have hpos := hS.pos
      have h2 := Nat.two_pow_pos l.length
      obtain ⟨w, hw, hwe⟩ := tmod_set hab.1 hab.2 hl
      obtain ⟨last, hlast, hle⟩ := tmod_hat hbb.1 hbb.2 hpos
      have hv := or_lt hw hlast
      have hvb : (w ||| 2 ^ last).testBit last = true := by rw [or_bit]; simp
      have hpl : 2 ^ last < 2 ^ 10 := Nat.pow_lt_pow_right (by decide) (by omega)
      rw [clochelaw03_VisitsLess.j0, if_neg (by decide), if_neg (by omega), if_neg (by rw [bShl l.length (by omega)]; omega), hle, hwe, if_pos (by omega), orI hS w last hw hlast, bShl last (by omega), bDiff _ _ (by omega) (by omega),
        Without_f hS _ 60000 (by decide), Option.bind_some]
      generalize w ||| 2 ^ last = v at hv hvb ⊢
      obtain ⟨hex, hgw⟩ := small_gw hS hv hlast hvb
      have hS2 := small_shop hS hex
      have hs0 : (sd v (2 ^ last)).testBit last = false := by rw [sd_bit, pow_bit]; simp
      have hat := rk_lt hs0 hlast
      have hlen := small_len l (sd v (2 ^ last))
      have hat1 : rk (sd v (2 ^ last)) last < (small l (sd v (2 ^ last))).length := by omega
      have hl2 := hS2.le
      have p0 : 2 ^ rk (sd v (2 ^ last)) last < 2 ^ (small l (sd v (2 ^ last))).length := Nat.pow_lt_pow_right (by decide) hat1
      refine less_l0 v last (by omega) (small l (sd v (2 ^ last))) true 50000 (fun k hk => ?_) last 0 60000 (by omega) (by omega)
      obtain ⟨k, rfl, _⟩ := succK (show 0 < k by omega)
      rw [clochelaw03_VisitsLess.l0, if_neg (by omega), wins_at hS hv hlast hvb k (by omega), Option.bind_some, if_pos (by omega), bShl _ (by omega), wins_at hS2 p0 hat1 (by rw [pow_bit]; simp) k (by omega), Option.bind_some,
        move_at hS hv hlast hvb k (by omega), Option.bind_some, if_pos rfl, if_pos rfl, hgw, if_neg (by cases gw l v last <;> decide)]
      have hfi := firstI_gw l v last hv
      rcases firstI_or (cw l v last) l.length 0 with h1 | ⟨i, _, hi, hcw, h1⟩
      · rw [h1] at hfi ⊢
        rw [← hfi]
        obtain ⟨k, rfl, _⟩ := succK (show 0 < k by omega)
        rw [if_neg (show ¬ (-1 : Int) ≥ 0 by decide)]
        show (if (((10 : Int) == 0) != decide ((-1 : Int) ≥ 0)) = true then _ else _) = _
        rw [if_neg (by decide), if_neg (by decide), clochelaw03_VisitsLess.j2, if_neg (by decide), if_neg (by decide), if_pos rfl, alive_f k (by omega), Option.bind_some]
      · rw [h1] at hfi ⊢
        have hg : gw l v last = true := by rw [← hfi]; exact decide_eq_true (by omega)
        have hil : i < l.length := by omega
        have hc := hcw
        unfold cw at hc
        simp only [Bool.and_eq_true, Bool.not_eq_true'] at hc
        have hv2 := or_lt hv hil
        have hvb2 : (v ||| 2 ^ i).testBit i = true := by rw [or_bit]; simp
        obtain ⟨k, rfl, _⟩ := succK (show 0 < k by omega)
        obtain ⟨k, rfl, _⟩ := succK (show 0 < k by omega)
        rw [if_pos (show (i : Int) ≥ 0 by omega), hg]
        show (if (((0 : Int) == 0) != true) = true then _ else _) = _
        rw [if_neg (by decide), if_pos rfl, clochelaw03_VisitsLess.j2, if_neg (by decide), if_pos rfl]
        show (if (i : Int) < 0 then _ else _) = _
        rw [if_neg (by omega), if_neg (by omega), if_pos (by omega), if_pos (by omega), if_pos (by omega), testT hS v last i hv hlast hil, clochelaw03_VisitsLess.j3, hc.1.1, hc.1.2]
        show (if ((((true && !false).toNat : Nat) : Int) == 0) = true then _ else _) = _
        rw [if_neg (by decide)]
        show (if (0 : Int) ≤ (i : Int) then _ else _) = _
        rw [if_pos (by omega), orI hS v i hv hil, wins_at hS hv2 hil hvb2 k (by omega), Option.bind_some, if_pos rfl, hc.2, if_neg (by decide), alive_f k (by omega), Option.bind_some]
  · rw [if_neg h]
    exact hj
end Go.Proofs.YtadfcplobidmeaaDoor.Pure
