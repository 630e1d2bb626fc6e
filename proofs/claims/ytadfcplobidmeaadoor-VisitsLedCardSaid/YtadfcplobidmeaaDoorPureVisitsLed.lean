/- VisitsLed: the one who is next wins by the answers of a largest matching, exactly if the last hat is needed; Starts has the hats that are not needed. -/
import Derived.Test.YtadfcplobidmeaaDoorVLed
import Derived.Test.YtadfcplobidmeaaDoorVSize
import Derived.Test.YtadfcplobidmeaaDoorVWins
import Derived.Test.YtadfcplobidmeaaDoorVHat
import Derived.Test.YtadfcplobidmeaaDoorPrintx36
namespace Go.Proofs.YtadfcplobidmeaaDoor.Pure
open Go.RowKit Go.Proofs.YtadfcplobidmeaaDoor.Print Go.Proofs.YtadfcplobidmeaaDoorW.PrintWords Go.Proofs.YtadfcplobidmeaaDoorW.PrintLast Go.Proofs.YtadfcplobidmeaaDoorW.PrintMore
/-- how many hats of the set are among the m from j on. -/
def bitsFrom (s j : Nat) : Nat → Nat
  | 0 => 0
  | m + 1 => (s.testBit j).toNat + bitsFrom s (j + 1) m
theorem szN_from (s : Nat) : ∀ m j, szN s (j + m) = szN s j + bitsFrom s j m
  | 0, _ => rfl
  | m + 1, j => by
    have := szN_from s m (j + 1)
    simp only [szN] at this
    simp only [bitsFrom]
    rw [show j + (m + 1) = j + 1 + m by omega, this]
    omega
theorem szN_top {s n : Nat} (h : s < 2 ^ n) : ∀ d, szN s (n + d) = szN s n
  | 0 => rfl
  | d + 1 => by
    have := szN_top h d
    have hb : s.testBit (n + d) = false := Nat.testBit_lt_two_pow (Nat.lt_of_lt_of_le h (Nat.pow_le_pow_right (by decide) (Nat.le_add_right _ _)))
    rw [show n + (d + 1) = (n + d) + 1 by omega]
    simp only [szN]
    rw [this, hb]
    rfl
theorem sz_from {s n : Nat} (h : s < 2 ^ n) (hn : n ≤ 10) : sz s = bitsFrom s 0 n := by
  have h1 := szN_top h (10 - n)
  have h2 := szN_from s n 0
  rw [show n + (10 - n) = 10 by omega] at h1
  rw [Nat.zero_add] at h2
  have h3 : szN s 0 = 0 := rfl
  unfold sz
  omega
theorem sz_pos {s : Nat} (h : s < 1024) (h0 : s ≠ 0) : 0 < sz s := by
  obtain ⟨h1, h2, _⟩ := low_spec h h0
  have e : sd s (2 ^ low s) ||| 2 ^ low s = s := bits_eq fun i => by
    rw [or_bit, sd_bit, pow_bit]
    by_cases c : low s = i
    · rw [c] at h1; rw [h1, decide_eq_true c]; rfl
    · rw [decide_eq_false c]; simp
  have := sz_or (X := sd s (2 ^ low s)) h2 (by rw [sd_bit, pow_bit]; simp)
  rw [e] at this
  omega
/-- the other one's move: the hat that is taken goes with the one before and is not visited. -/
theorem led_l1 {l : List Int} (hS : Shop l) (mv : List Int) (p : List S43) (V may last i F : Nat) (r : Bool) (hm : may < 2 ^ l.length) (hV : V < 2 ^ l.length)
    (hv : ∀ k, k < l.length → may.testBit k = true → ∀ f, F ≤ f → clochelaw03_VisitsLed.l0 f l mv (l.length : Int) (k : Int) p ((V ||| 2 ^ k : Nat) : Int) (wrap64 ((i : Int) + 1)) = some r) :
    ∀ (m j f by0 : Nat), j + m = l.length → F + m + 1 ≤ f → by0 < bitsFrom may j m → clochelaw03_VisitsLed.l1 f l mv (l.length : Int) (last : Int) p (V : Int) (i : Int) (may : Int) (by0 : Int) (j : Int) = some r
  | 0, j, f, by0, hj, hf, hb => absurd hb (Nat.not_lt_zero _)
  | m + 1, j, f, by0, hj, hf, hb => by
    obtain ⟨f, rfl, _⟩ := succK (show 0 < f by omega)
    have hl := hS.le
    simp only [bitsFrom] at hb
    rw [clochelaw03_VisitsLed.l1, if_pos (by omega), if_pos (by omega), bitT may j (by omega), inc64 j (by omega), orI hS V j hV (by omega)]
    cases c : may.testBit j
    · rw [if_neg (by decide)]
      rw [c, Bool.toNat_false, Nat.zero_add] at hb
      exact led_l1 hS mv p V may last i F r hm hV hv m (j + 1) f by0 (by omega) (by omega) hb
    · rw [if_pos (by decide)]
      rw [c, Bool.toNat_true] at hb
      by_cases c2 : by0 = 0
      · rw [if_pos (by omega)]
        exact hv j (by omega) c f (by omega)
      · have hlen : ∀ m j, bitsFrom may j m ≤ m := by
          intro m
          induction m with
          | zero => exact fun _ => Nat.le_refl _
          | succ m ih =>
            intro j
            have := ih (j + 1)
            simp only [bitsFrom]
            cases may.testBit j
            · simp only [Bool.toNat_false]; omega
            · simp only [Bool.toNat_true]; omega
        have h1 := hlen m (j + 1)
        rw [if_neg (by omega), w64 (by omega) (by omega), show ((by0 : Int) - 1) = ((by0 - 1 : Nat) : Int) by omega]
        exact led_l1 hS mv p V may last i F r hm hV hv m (j + 1) f (by0 - 1) (by omega) (by omega) (by omega)
theorem led_l0 {l : List Int} (hS : Shop l) {p : List S43} (hp : isMat l p = true) (hpl : p.length ≤ 1000) (mv : List Int) (hmv : ∀ x ∈ mv, 0 ≤ x ∧ x ≤ 65535) (hml : mv.length ≤ 40) :
    ∀ (N V last i f : Nat), l.length ≤ i + N → Inv l p V last → sz V = 2 * i + 1 → 2100 + 40 * N ≤ f → clochelaw03_VisitsLed.l0 f l mv (l.length : Int) (last : Int) p (V : Int) (i : Int) = some true
  | N, V, last, i, f, hN, hI, hz, hf => by
    have hl := hS.le
    have hp2 := pow10 hl
    have hVf : sz V ≤ l.length := by
      rw [← sz_full hl]
      exact sz_mono fun j hj => by rw [full_bit]; exact decide_eq_true (bit_lt hI.lt hj)
    obtain ⟨N, rfl⟩ : ∃ N', N = N' + 1 := ⟨N - 1, by omega⟩
    obtain ⟨a, ha, hal, hVa, hadj, hnext⟩ := hI.step hS hp
    have hV' := or_lt hI.lt hal
    have hrow := hS.row_lt hal
    have hs : isShop l = true := (isShop_iff l).2 hS
    have hll := hI.ll
    have hlt := hI.lt
    obtain ⟨f, rfl, _⟩ := succK (show 0 < f by omega)
    obtain ⟨f, rfl, _⟩ := succK (show 0 < f by omega)
    have eA : ansV l p (last : Int) = ((a : Int), 0) := by
      unfold ansV
      rw [hs, hp, decide_eq_true (show (0 : Int) ≤ (last : Int) by omega), decide_eq_true (show (last : Int) < l.length by omega), if_pos (by decide), ha]
    have eM : Go.bits .andNot .i64 (rd l (a : Int)) ((V ||| 2 ^ a : Nat) : Int) = ((sd (row l a) (V ||| 2 ^ a) : Nat) : Int) := by
      rw [rdn, hS.row hal, bDiff _ _ (by omega) (by omega)]
    have eB : ((Int.tmod (shr .i64 (rd l (last : Int)) (a : Int)) 2) == 0) = false := by
      rw [rdn, hS.row hll, bitT _ a (by omega)]
      have : (row l last).testBit a = true := hadj
      rw [this]; rfl
    rw [clochelaw03_VisitsLed.l0, if_pos (by omega), vAnswer_f l p hpl (last : Int) (f + 1) (by omega), Option.bind_some, eA, if_pos rfl]
    show (if (a : Int) < 0 then _ else _) = _
    rw [if_neg (by omega), if_neg (by omega), if_pos (by omega), bitT V a (by omega), hVa, if_neg (by decide), if_pos (by omega), if_pos (by omega), eB, clochelaw03_VisitsLed.j3, if_neg (by decide)]
    rw [if_pos (by omega), if_pos (by omega), orI hS V a hlt hal, eM]
    have hml2 : sd (row l a) (V ||| 2 ^ a) < 2 ^ l.length := Nat.lt_of_le_of_lt (sd_le _ _) hrow
    have hmay : ∀ k, (sd (row l a) (V ||| 2 ^ a)).testBit k = true → adj l a k = true ∧ (V ||| 2 ^ a).testBit k = false := fun k hk => by
      rw [sd_bit, Bool.and_eq_true, Bool.not_eq_true'] at hk
      exact hk
    generalize sd (row l a) (V ||| 2 ^ a) = may at hml2 hmay ⊢
    by_cases c0 : may = 0
    · rw [if_pos (by rw [c0]; rfl), alive_f f (by omega), Option.bind_some]
    · have hsz := sz_pos (show may < 1024 by omega) c0
      have hsf := sz_from hml2 hl
      have hgo : ∀ by0 : Nat, by0 < sz may → ∀ f, 2100 + 40 * N + 30 ≤ f → clochelaw03_VisitsLed.j4 f l mv (l.length : Int) (last : Int) p ((V ||| 2 ^ a : Nat) : Int) (i : Int) (may : Int) (by0 : Int) = some true := fun by0 hb f hf => by
        obtain ⟨f, rfl, _⟩ := succK (show 0 < f by omega)
        rw [clochelaw03_VisitsLed.j4]
        refine led_l1 hS mv p (V ||| 2 ^ a) may last i (2100 + 40 * N) true hml2 hV' (fun k hk hmk g hg => ?_) l.length 0 f by0 (by omega) (by omega) (by omega)
        obtain ⟨q1, q2⟩ := hmay k hmk
        rw [inc64 i (by omega)]
        have z1 := sz_or (X := V) (a := a) (by omega) hVa
        have z2 := sz_or (X := V ||| 2 ^ a) (a := k) (by omega) q2
        exact led_l0 hS hp hpl mv hmv hml N _ k (i + 1) g (by omega) (hnext k hk q1 q2) (by omega) hg
      rw [if_neg (by omega)]
      by_cases c1 : i < mv.length
      · have hx := hmv (mv.getD i 0) (by rw [List.getD_eq_getElem?_getD, List.getElem?_eq_getElem c1]; exact List.getElem_mem c1)
        have hb : ∃ by0 : Nat, by0 < sz may ∧ Int.tmod (mv.getD i 0) ((sz may : Nat) : Int) = (by0 : Int) := by
          generalize mv.getD i 0 = x at hx
          obtain ⟨q, rfl⟩ : ∃ q : Nat, x = q := ⟨x.toNat, by omega⟩
          exact ⟨q % sz may, Nat.mod_lt _ hsz, by rw [← Int.ofNat_tmod]⟩
        obtain ⟨by0, hb1, hb2⟩ := hb
        rw [if_pos (by omega), if_pos (by omega), Size_f (by omega) f (by omega), Option.bind_some, if_neg (by omega), rdn, w64 (by omega) (by omega), hb2]
        exact hgo by0 hb1 f (by omega)
      · rw [if_neg (by omega)]
        exact hgo 0 hsz f (by omega)
theorem VisitsLed : clochelaw03_VisitsLed.Pure := by
  intro l a mv _ _ _ ha _ _ hmv
  have hab := u8_range ha
  refine ⟨60001, ?_⟩
  have hj : clochelaw03_VisitsLed.j0 60001 l a mv true = some true := by
    rw [clochelaw03_VisitsLed.j0, if_pos rfl, alive_f 60000 (by decide), Option.bind_some]
  unfold clochelaw03_VisitsLed.f
  rw [few_f, Option.bind_some]
  by_cases h : (decide (l.length ≤ 40) && decide (([] : List S43).length ≤ 40)) = true
  · rw [if_pos h]
    by_cases hml : mv.length ≤ 40
    · rw [if_neg (by omega), IsShop_f l 60001 (by decide), Option.bind_some]
      cases hs : isShop l
      · exact hj
      · have hS := (isShop_iff l).1 hs
        have hl := hS.le
        have hp2 := pow10 hl
        have hpos := hS.pos
        obtain ⟨last, hlast, hle⟩ := tmod_hat hab.1 hab.2 hpos
        have hpw : 2 ^ last < 2 ^ l.length := Nat.pow_lt_pow_right (by decide) hlast
        have hself : (2 ^ last).testBit last = true := by rw [pow_bit]; simp
        have hx := first_length hS
        have hx2 := nu_small hS
        have eF : ∀ j, j < l.length → sd (full l) (2 ^ j) ||| 2 ^ j = full l := fun j hj => bits_eq fun i => by
          rw [or_bit, sd_bit, full_bit, pow_bit]
          by_cases c : j = i
          · subst c; simp [hj]
          · simp [c]
        have eG : ∀ j, j < l.length → gw l (2 ^ j) j = needP l j := fun j hj => by
          have := gw_need hS (2 ^ l.length) (2 ^ j) j (Nat.le_add_left _ _) (Nat.pow_lt_pow_right (by decide) hj) hj (by rw [pow_bit]; simp)
          rw [eF j hj] at this
          unfold needP
          exact bEq (this.trans decide_eq_true_iff.symm)
        have eN : (needB l).testBit last = needP l last := by
          unfold needB
          rw [setF_bit, Nat.zero_testBit, Nat.zero_add, decide_eq_true hlast]
          simp
        have hnl : needB l < 2 ^ l.length := by
          have := setF_lt (needP l) l.length 0 0 (by decide)
          rw [Nat.zero_add] at this
          exact this
        have eS : startB l = 2 ^ l.length - (needB l + 1) := bits_eq fun i => by
          rw [Nat.testBit_two_pow_sub_succ hnl]
          unfold startB needB
          rw [setF_bit, setF_bit, Nat.zero_testBit, Nat.zero_add]
          by_cases c : i < l.length
          · have : startP l i = !needP l i := by unfold startP; rw [eG i c]
            rw [this, decide_eq_true c]; simp
          · rw [decide_eq_false c]; simp
        rw [clochelaw03_VisitsLed.j0, if_neg (by decide), if_neg (by omega), hle, if_pos (by omega), bShl last (by omega), wins_at hS hpw hlast hself 60000 (by decide), Option.bind_some, vNeeded_f l 60000 (by decide), Option.bind_some,
          vStarts_f l 60000 (by decide), Option.bind_some, vLargest_f l 60000 (by decide), Option.bind_some]
        unfold needV startV firstV
        rw [if_pos hs, if_pos hs, if_pos hs, if_pos rfl, if_pos rfl, if_pos rfl, if_pos rfl, eG last hlast]
        have e1 : ((Int.tmod (shr .i64 ((needB l : Nat) : Int) (last : Int)) 2) == 1) = needP l last := by
          rw [bitT _ last (by omega), eN]
          cases needP l last <;> rfl
        have e2 : ((startB l : Nat) : Int) = (wrap64 ((wrap64 ((shl .i64 1 (l.length : Int)) - 1)) - ((needB l : Nat) : Int))) := by
          rw [bShl l.length (by omega), w64 (z := ((2 ^ l.length : Nat) : Int) - 1) (by omega) (by omega), w64 (by omega) (by omega), eS]
          omega
        rw [e1, if_neg (by cases needP l last <;> decide)]
        show clochelaw03_VisitsLed.j1 60000 l mv (l.length : Int) (last : Int) (needP l last) (first1 l) (((startB l : Nat) : Int) != (wrap64 ((wrap64 ((shl .i64 1 (l.length : Int)) - 1)) - ((needB l : Nat) : Int)))) = some true
        rw [← e2, show (((startB l : Nat) : Int) != ((startB l : Nat) : Int)) = false by simp, clochelaw03_VisitsLed.j1, if_neg (by decide)]
        cases hn : needP l last
        · rw [if_neg (by decide), alive_f 59999 (by decide), Option.bind_some]
        · rw [if_pos rfl, if_pos (by omega), bShl last (by omega)]
          refine led_l0 hS (first_mat hS) (by omega) mv (fun x hx => u8_range (hmv x hx)) hml l.length (2 ^ last) last 0 59999 (by omega) ⟨hpw, hlast, hself, ?_, ?_, ?_⟩ ?_ (by omega)
          · rw [eF last hlast]
            unfold needP at hn
            exact of_decide_eq_true hn
          · intro x hx
            obtain ⟨A, B, e1, e2, hAB, hA, hB, _⟩ := qm_in _ _ (mat_qm (first_mat hS)) x hx
            rw [eF last hlast, e1, e2, Int.toNat_natCast, Int.toNat_natCast, hA, hB]
          · rw [eF last hlast, ← hx]
            have : ∀ q : List S43, (∀ x ∈ q, (full l).testBit x.f0.toNat = true) → cntU (full l) q = q.length := by
              intro q
              induction q with
              | nil => exact fun _ => rfl
              | cons y t ih =>
                intro hq
                simp only [cntU, List.length_cons]
                rw [hq y List.mem_cons_self, ih (fun x hx => hq x (List.mem_cons_of_mem _ hx)), Bool.toNat_true]
                omega
            refine this _ fun x hx => ?_
            obtain ⟨A, B, e1, e2, hAB, hA, hB, _⟩ := qm_in _ _ (mat_qm (first_mat hS)) x hx
            rw [e1, Int.toNat_natCast, hA]
          · unfold sz
            rw [szN_one, if_pos (by omega)]
    · rw [if_pos (by omega)]
      exact hj
  · rw [if_neg h]
    exact hj
end Go.Proofs.YtadfcplobidmeaaDoor.Pure
