/- VisitsGallai: the odd parts without the hats that go with those that are not needed. -/
import Derived.Test.YtadfcplobidmeaaDoorVTut
import Derived.Test.YtadfcplobidmeaaDoorVMatch
import Derived.Test.YtadfcplobidmeaaDoorPrintx30
namespace Go.Proofs.YtadfcplobidmeaaDoor.Pure
open Go.RowKit Go.Proofs.YtadfcplobidmeaaDoor.Print Go.Proofs.YtadfcplobidmeaaDoorW.PrintWords Go.Proofs.YtadfcplobidmeaaDoorW.PrintLast Go.Proofs.YtadfcplobidmeaaDoorW.PrintMore
theorem gal_l0 {l : List Int} (hS : Shop l) (r : Bool) (F : Nat) (hn : needB l < 2 ^ l.length) (hd : dB l < 2 ^ l.length)
    (hv : ∀ k, F ≤ k → clochelaw03_VisitsGallai.l0 k l (l.length : Int) ((needB l : Nat) : Int) ((dB l : Nat) : Int) ((aB l : Nat) : Int) (l.length : Int) = some r) :
    ∀ (m j k out : Nat), j + m = l.length → F + m ≤ k → out < 2 ^ j → setF (aP l) j m out = aB l → clochelaw03_VisitsGallai.l0 k l (l.length : Int) ((needB l : Nat) : Int) ((dB l : Nat) : Int) (out : Int) (j : Int) = some r
  | 0, j, k, out, hj, hk, ho, he => by
    obtain rfl : j = l.length := by omega
    obtain rfl : out = aB l := he
    exact hv k (by omega)
  | m + 1, j, k, out, hj, hk, ho, he => by
    obtain ⟨k, rfl, _⟩ := succK (show 0 < k by omega)
    have hl := hS.le
    have hp := pow10 hl
    have hjl : j < l.length := by omega
    have hr := hS.row_lt hjl
    have p1 : 2 ^ j < 2 ^ 10 := Nat.pow_lt_pow_right (by decide) (by omega)
    have ho2 : out < 2 ^ (j + 1) := Nat.lt_of_lt_of_le ho (Nat.pow_le_pow_right (by decide) (Nat.le_succ j))
    have he' : setF (aP l) (j + 1) m (if aP l j = true then out ||| 2 ^ j else out) = aB l := he
    have eP : aP l j = (needP l j && !decide (row l j &&& dB l = 0)) := rfl
    rw [eP] at he'
    rw [clochelaw03_VisitsGallai.l0, if_pos (by omega), if_pos (by omega), bitT _ j (by omega), needB_at, decide_eq_true hjl, Bool.true_and, if_pos (show (j : Int) < (l.length : Int) by omega), rdn, hS.row hjl, bAnd _ _ (by omega) (by omega), inc64 j (by omega), bShl j (by omega)]
    have skip := fun he => gal_l0 hS r F hn hd hv m (j + 1) k out (by omega) (by omega) ho2 he
    cases c : needP l j
    · rw [c, Bool.false_and, if_neg (by decide)] at he'
      rw [if_neg (by decide)]
      exact skip he'
    · rw [c, Bool.true_and] at he'
      rw [if_pos (by decide)]
      by_cases c2 : row l j &&& dB l = 0
      · rw [decide_eq_true c2, if_neg (by decide)] at he'
        rw [if_pos (by rw [c2]; rfl)]
        exact skip he'
      · rw [decide_eq_false c2, if_pos (by decide)] at he'
        have ea : wrap64 ((out : Int) + ((2 ^ j : Nat) : Int)) = ((out ||| 2 ^ j : Nat) : Int) := by
          rw [w64 (by omega) (by omega), ← orAdd ho]
          omega
        rw [if_neg (by omega), ea]
        exact gal_l0 hS r F hn hd hv m (j + 1) k (out ||| 2 ^ j) (by omega) (by omega) (or_lt ho2 (Nat.lt_succ_self j)) he'
theorem gal_l1 (D : Nat) (hD : D < 1024) (P : List Int) (hP : P.length ≤ 100) (o : Nat) (hx : ∀ x ∈ P, ∃ c : Nat, x = c ∧ c < 1024 ∧ (¬ c &&& D = 0 → sd c D = 0 ∧ sz c % 2 = 1) ∧ (c &&& D = 0 → sz c % 2 = 0)) :
    ∀ (m i k s : Nat), i + m = P.length → 100 + m + 1 ≤ k → s ≤ i → s + oddI (P.drop i) = o → clochelaw03_VisitsGallai.l1 k (D : Int) P (o : Int) (s : Int) (i : Int) = some true
  | 0, i, k, s, hi, hk, hs, he => by
    obtain ⟨k, rfl, _⟩ := succK (show 0 < k by omega)
    rw [List.drop_eq_nil_of_le (by omega)] at he
    simp only [oddI, Nat.add_zero] at he
    rw [clochelaw03_VisitsGallai.l1, if_neg (by omega), if_pos (by omega), alive_f k (by omega), Option.bind_some]
  | m + 1, i, k, s, hi, hk, hs, he => by
    obtain ⟨k, rfl, _⟩ := succK (show 0 < k by omega)
    have hil : i < P.length := by omega
    have hd : P.drop i = P.getD i 0 :: P.drop (i + 1) := by
      rw [List.drop_eq_getElem_cons hil, List.getD_eq_getElem?_getD, List.getElem?_eq_getElem hil]
      rfl
    have hm : P.getD i 0 ∈ P := by
      rw [List.getD_eq_getElem?_getD, List.getElem?_eq_getElem hil]
      exact List.getElem_mem hil
    obtain ⟨c, ec, hc, h1, h2⟩ := hx _ hm
    rw [hd] at he
    simp only [oddI] at he
    rw [ec, Int.toNat_natCast] at he
    rw [clochelaw03_VisitsGallai.l1, if_pos (by omega), if_pos (by omega), rdn, ec, bAnd _ _ (by omega) (by omega), bDiff _ _ (by omega) (by omega), inc64 i (by omega), inc64 s (by omega)]
    by_cases c0 : c &&& D = 0
    · rw [if_pos (by rw [c0]; rfl)]
      rw [h2 c0] at he
      exact gal_l1 D hD P hP o hx m (i + 1) k s (by omega) (by omega) (by omega) (by omega)
    · obtain ⟨q1, q2⟩ := h1 c0
      have e2 : Int.tmod ((sz c : Nat) : Int) 2 = ((sz c % 2 : Nat) : Int) := (Int.ofNat_tmod (sz c) 2).symm
      rw [q2] at he
      rw [if_neg (by omega), q1, if_pos (show ((0 : Nat) : Int) = 0 from rfl), Size_f hc k (by omega), Option.bind_some, e2, q2, if_neg (by decide)]
      exact gal_l1 D hD P hP o hx m (i + 1) k (s + 1) (by omega) (by omega) (by omega) (by omega)
theorem gal_at {l : List Int} (hS : Shop l) (K : Nat) (hK : 50000 ≤ K) : clochelaw03_VisitsGallai.l0 K l (l.length : Int) ((needB l : Nat) : Int) ((dB l : Nat) : Int) 0 0 = some true := by
  have hl := hS.le
  have hp := pow10 hl
  have hn : needB l < 2 ^ l.length := by
    have := setF_lt (needP l) l.length 0 0 (by decide)
    rw [Nat.zero_add] at this
    exact this
  have hd : dB l < 2 ^ l.length := sd_lt2 _ (full_lt l)
  have ha := aB_lt l
  have h2 := Nat.two_pow_pos l.length
  obtain ⟨b1, b2, b3, b4⟩ := bar_value hS
  obtain ⟨e1, e2⟩ := edm hS
  have d1 := dif_range hS (aB l)
  have ed : ((oddV l (aB l) : Nat) : Int) - ((sz (aB l) : Nat) : Int) = dif l (aB l) := rfl
  refine gal_l0 hS true 40000 hn hd (fun k hk => ?_) l.length 0 K 0 (by omega) (by omega) (by decide) rfl
  obtain ⟨k, rfl, _⟩ := succK (show 0 < k by omega)
  rw [clochelaw03_VisitsGallai.l0, if_neg (by omega), vParts_at hS ha k (by omega), Option.bind_some, vOdd_at hS ha k (by omega), Option.bind_some, vBarrier_f l k (by omega), Option.bind_some]
  unfold barrierV
  rw [if_pos ((isShop_iff l).2 hS), if_pos rfl, if_pos rfl, if_pos rfl, Size_f (by omega) k (by omega), Option.bind_some]
  show clochelaw03_VisitsGallai.j3 k ((dB l : Nat) : Int) (partsI l (aB l)) ((oddV l (aB l) : Nat) : Int) (wrap64 (((oddV l (aB l) : Nat) : Int) - ((sz (aB l) : Nat) : Int)) != (barV l).2) = _
  rw [ed, w64 (by omega) (by omega), show (dif l (aB l) != (barV l).2) = false by rw [bne_eq_false_iff_eq]; omega]
  obtain ⟨k, rfl, _⟩ := succK (show 0 < k by omega)
  have hlen := partsI_len hS (S := aB l)
  rw [clochelaw03_VisitsGallai.j3, if_neg (by decide)]
  refine gal_l1 (dB l) (by omega) (partsI l (aB l)) (by omega) (oddV l (aB l)) (fun x hx => ?_) (partsI l (aB l)).length 0 k 0 (by omega) (by omega) (by omega) (by rw [List.drop_zero, Nat.zero_add, odd_I])
  obtain ⟨c, rfl, hc⟩ := partsI_at hx
  have hcl := (isParts_lt (partsV_spec hS) c hc).lt (sd_lt2 (aB l) (full_lt l))
  obtain ⟨f1, f2⟩ := e2 c hc
  refine ⟨c, rfl, by omega, fun h => ?_, fun h => f2 fun ⟨i, h1, h2⟩ => meets' h1 h2 h⟩
  obtain ⟨g1, g2⟩ := f1 (meets h)
  refine ⟨bits_eq fun i => ?_, g2⟩
  rw [sd_bit, Nat.zero_testBit]
  cases q : c.testBit i
  · rfl
  · rw [g1 i q]; rfl
theorem VisitsGallai : clochelaw03_VisitsGallai.Pure := by
  intro l _ _ _
  refine ⟨60001, ?_⟩
  have hj : clochelaw03_VisitsGallai.j0 60001 l true = some true := by
    rw [clochelaw03_VisitsGallai.j0, if_pos rfl, alive_f 60000 (by decide), Option.bind_some]
  unfold clochelaw03_VisitsGallai.f
  rw [few_f, Option.bind_some]
  by_cases h : (decide (l.length ≤ 40) && decide (([] : List S43).length ≤ 40)) = true
  · rw [if_pos h, IsShop_f l 60001 (by decide), Option.bind_some]
    cases hs : isShop l
    · exact hj
    · have hS := (isShop_iff l).1 hs
      have hl := hS.le
      have hp := pow10 hl
      have h2 := Nat.two_pow_pos l.length
      have hn : needB l < 2 ^ l.length := by
        have := setF_lt (needP l) l.length 0 0 (by decide)
        rw [Nat.zero_add] at this
        exact this
      have eD : dB l = 2 ^ l.length - (needB l + 1) := bits_eq fun i => by
        rw [Nat.testBit_two_pow_sub_succ hn]
        unfold dB
        rw [sd_bit, full_bit]
      have e2 : (wrap64 ((wrap64 ((shl .i64 1 (l.length : Int)) - 1)) - ((needB l : Nat) : Int))) = ((dB l : Nat) : Int) := by
        rw [bShl l.length (by omega), w64 (z := ((2 ^ l.length : Nat) : Int) - 1) (by omega) (by omega), w64 (by omega) (by omega), eD]
        omega
      rw [clochelaw03_VisitsGallai.j0, if_neg (by decide), vNeeded_f l 60000 (by decide), Option.bind_some]
      unfold needV
      rw [if_pos hs, if_pos rfl]
      show (if ((needB l : Nat) : Int) < 0 then _ else _) = _
      rw [if_neg (by omega), bShl l.length (by omega), decide_eq_false (by omega), clochelaw03_VisitsGallai.j1, if_neg (by decide), if_pos (by omega)]
      rw [e2]
      exact gal_at hS 59999 (by decide)
  · rw [if_neg h]
    exact hj
end Go.Proofs.YtadfcplobidmeaaDoor.Pure
