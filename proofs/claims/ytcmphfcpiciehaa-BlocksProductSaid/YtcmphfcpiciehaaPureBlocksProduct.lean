/- BlocksProduct: Ways times the hooks is the product of 1 to n; it is the sum of Ways of the shapes with one block less. -/
import Derived.Test.YtcmphfcpiciehaaBProd
import Derived.Test.YtcmphfcpiciehaaBProd2
import Derived.Test.YtcmphfcpiciehaaBProd3
import Derived.Test.YtcmphfcpiciehaaBProd4
import Derived.Test.YtcmphfcpiciehaaBBase
import Derived.Test.YtcmphfcpiciehaaPrintx27
namespace Go.Proofs.Ytcmphfcpiciehaa.Pure
open Go.RowKit Go.Proofs.Ytcmphfcpiciehaa.Print Go.Proofs.YtcmphfcpiciehaaW.PrintWords Go.Proofs.YtcmphfcpiciehaaW.PrintLast Go.Proofs.YtcmphfcpiciehaaW.PrintMore
theorem okC_all {n : Nat} (h : n ≤ 20) : (partsI 12 20 n).all (okC n) = true := by
  by_cases hn : n < 13
  · exact List.all_eq_true.1 okC0 n (List.mem_range.2 hn)
  · have : n = 13 ∨ n = 14 ∨ n = 15 ∨ n = 16 ∨ n = 17 ∨ n = 18 ∨ n = 19 ∨ n = 20 := by omega
    rcases this with rfl | rfl | rfl | rfl | rfl | rfl | rfl | rfl
    · exact okC13
    · exact okC14
    · exact okC15
    · exact okC16
    · exact okC17
    · exact okC18
    · exact okC19
    · exact okC20
theorem okC_of {l : List Int} (hs : Shp l) {n : Nat} (hn : l.sum = n) (h20 : n ≤ 20) : (∀ r, r < l.length → skip l r = false → Shp (lessL l r) ∧ (lessL l r).sum + 1 = (n : Int)) ∧ (n = 0 ∨ sumC l n 0 l.length = waysN l n) := by
  have hok := List.all_eq_true.1 (okC_all h20) l (hs.parts hn h20)
  simp only [okC, Bool.and_eq_true, decide_eq_true_eq] at hok
  refine ⟨fun r hr hk => ?_, hok.2⟩
  have := List.all_eq_true.1 hok.1 r (List.mem_range.2 hr)
  rw [hk, Bool.false_or, Bool.and_eq_true, decide_eq_true_eq] at this
  exact ⟨(isShp_iff _).1 this.1, this.2⟩
/-! ### the product -/
theorem P_l0 (l : List Int) (w : Int) (N : Nat) (hN : N ≤ 20) (L : List (List Int)) : ∀ m k (i : Nat), i + m = N + 1 → 1 ≤ i → clochelaw04_BlocksProduct.l0 (k + m) l w N L (facN (i - 1) : Int) i = clochelaw04_BlocksProduct.l0 k l w N L (facN N : Int) ((N + 1 : Nat) : Int)
  | 0, k, i, h, _ => by
    have : i = N + 1 := by omega
    subst this
    rfl
  | m + 1, k, i, h, h2 => by
    have hf : facN i = facN (i - 1) * i := by
      obtain ⟨j, rfl⟩ : ∃ j, i = j + 1 := ⟨i - 1, by omega⟩
      rfl
    have hf20 := facN_le (n := i) (by omega)
    have hw : wrap64 ((facN (i - 1) : Int) * (i : Int)) = (facN (i + 1 - 1) : Int) := by
      have : (facN (i - 1) : Int) * (i : Int) = ((facN i : Nat) : Int) := by rw [hf, Int.natCast_mul]
      rw [this, Nat.add_sub_cancel]
      exact wN _ (by omega)
    have ih := P_l0 l w N hN L m k (i + 1) (by omega) (by omega)
    obtain ⟨F, hF⟩ : ∃ F, F = k + m := ⟨_, rfl⟩
    rw [← hF] at ih
    rw [show k + (m + 1) = F + 1 by rw [hF]; rfl]
    simp only [clochelaw04_BlocksProduct.l0]
    rw [if_pos (by omega), hw, inc64 i (by omega)]
    exact ih
theorem P_l2 (l : List Int) (w n : Int) (L : List (List Nat)) (hL : L.length ≤ 1000) (r : Nat) (hr : r < L.length) (hb : ∀ x ∈ L.getD r [], 0 < x ∧ x ≤ 100) (hlen : (L.getD r []).length ≤ 1000) (Q : Nat) : ∀ m K (c o : Nat), c + m = (L.getD r []).length → o = Q * prodN ((L.getD r []).drop c) → o ≤ 9223372036854775807 → clochelaw04_BlocksProduct.l2 (K + m + 1) l w n (L.map cs) (o : Int) r c = clochelaw04_BlocksProduct.l1 K l w n (L.map cs) (Q : Int) ((r + 1 : Nat) : Int)
  | 0, K, c, o, h, ho, h1 => by
    rw [List.drop_eq_nil_of_le (by omega)] at ho
    have ho : o = Q := by rw [ho]; exact Nat.mul_one _
    subst ho
    show clochelaw04_BlocksProduct.l2 (K + 1) l w n (L.map cs) (o : Int) r c = _
    simp only [clochelaw04_BlocksProduct.l2]
    rw [if_pos (by omega), if_pos (by rw [List.length_map]; omega), rdcs, if_neg (by rw [cs_length]; omega), inc64 r (by omega)]
  | m + 1, K, c, o, h, ho, h1 => by
    have hc : c < (L.getD r []).length := by omega
    have hx := hb _ (getD_memN hc)
    obtain ⟨F, hF⟩ : ∃ F, F = K + m + 1 := ⟨_, rfl⟩
    rw [drop_getDN hc] at ho
    have ho : o = Q * ((L.getD r []).getD c 0 * prodN ((L.getD r []).drop (c + 1))) := ho
    have hdiv : o / (L.getD r []).getD c 0 = Q * prodN ((L.getD r []).drop (c + 1)) := by
      rw [ho, Nat.mul_left_comm, Nat.mul_div_cancel_left _ hx.1]
    have hmod : o % (L.getD r []).getD c 0 = 0 := by
      rw [ho, Nat.mul_left_comm, Nat.mul_mod_right]
    have htm : Int.tmod (o : Int) ((L.getD r []).getD c 0 : Nat) = 0 := by
      rw [Int.tmod_eq_emod_of_nonneg (by omega), ← Int.natCast_emod, hmod]
      rfl
    have hle : o / (L.getD r []).getD c 0 ≤ o := Nat.div_le_self _ _
    have ih := P_l2 l w n L hL r hr hb hlen Q m K (c + 1) (o / (L.getD r []).getD c 0) (by omega) hdiv (by omega)
    rw [← hF] at ih
    rw [show K + (m + 1) + 1 = F + 1 by rw [hF]; rfl]
    simp only [clochelaw04_BlocksProduct.l2]
    rw [if_pos (by omega), if_pos (by rw [List.length_map]; omega), rdcs, if_pos (by rw [cs_length]; omega), if_pos (by omega), rdn, cs_getD, if_neg (by omega), if_neg (by omega), htm, if_pos rfl, tdivN, wN _ (by omega), inc64 c (by omega)]
    exact ih
theorem P_l1 (l : List Int) (n : Int) (L : List (List Nat)) (hL : L.length ≤ 1000) (hb : ∀ x ∈ L.flatten, 0 < x ∧ x ≤ 100) (hlen : L.flatten.length ≤ 20) (Q : Nat) : ∀ m k (r o : Nat), r + m = L.length → 23 * m + 2 ≤ k → o = Q * prodN (L.drop r).flatten → o ≤ 9223372036854775807 → ∃ k', k ≤ k' + 23 * m + 1 ∧ clochelaw04_BlocksProduct.l1 k l (Q : Int) n (L.map cs) (o : Int) r = clochelaw04_BlocksProduct.l3 k' l (Q : Int) n 0 0
  | 0, k, r, o, h, hk, ho, h1 => by
    obtain ⟨k, rfl, _⟩ := succK (show 0 < k by omega)
    rw [List.drop_eq_nil_of_le (by omega)] at ho
    have ho : o = Q := by rw [ho]; exact Nat.mul_one _
    subst ho
    refine ⟨k, by omega, ?_⟩
    simp only [clochelaw04_BlocksProduct.l1]
    rw [if_neg (by rw [List.length_map]; omega), if_pos trivial]
  | m + 1, k, r, o, h, hk, ho, h1 => by
    have hr : r < L.length := by omega
    have hsub : ∀ x ∈ L.getD r [], x ∈ L.flatten := fun x hx => List.mem_flatten.2 ⟨_, by
      rw [List.getD_eq_getElem?_getD, List.getElem?_eq_getElem hr]
      exact List.getElem_mem hr, hx⟩
    have hl20 : (L.getD r []).length ≤ 20 := by
      refine Nat.le_trans ?_ hlen
      have e : L.flatten = (L.take r).flatten ++ (L.getD r [] ++ (L.drop (r + 1)).flatten) := by
        rw [← List.flatten_cons, ← drop_getDLN hr, ← List.flatten_append, List.take_append_drop]
      rw [e]
      simp
      omega
    obtain ⟨K, rfl⟩ : ∃ K, k = (K + (L.getD r []).length + 1) + 1 := ⟨k - (L.getD r []).length - 2, by omega⟩
    rw [drop_getDLN hr, List.flatten_cons, prodN_append] at ho
    have hpos : 0 < prodN (L.getD r []) := prodN_pos _ (fun x hx => (hb x (hsub x hx)).1)
    have h2 := P_l2 l (Q : Int) n L hL r hr (fun x hx => hb x (hsub x hx)) (by omega) (Q * prodN (L.drop (r + 1)).flatten) (L.getD r []).length K 0 o (by omega) (by rw [ho, List.drop_zero, Nat.mul_assoc, Nat.mul_comm (prodN (L.getD r []))]) h1
    have hle : Q * prodN (L.drop (r + 1)).flatten ≤ o := by
      rw [ho, Nat.mul_left_comm]
      exact Nat.le_mul_of_pos_left _ hpos
    obtain ⟨k', hk', ih⟩ := P_l1 l n L hL hb hlen Q m K (r + 1) (Q * prodN (L.drop (r + 1)).flatten) (by omega) (by omega) rfl (by omega)
    refine ⟨k', by omega, ?_⟩
    obtain ⟨F, hF⟩ : ∃ F, F = K + (L.getD r []).length + 1 := ⟨_, rfl⟩
    rw [← hF] at h2 ⊢
    simp only [clochelaw04_BlocksProduct.l1]
    rw [if_pos (by rw [List.length_map]; omega)]
    exact h2.trans ih
/-! ### one block less -/
theorem P_l4 (l : List Int) (hs : Shp l) (w n s : Int) (r : Nat) : ∀ m K (i : Nat) (acc : List Int), i + m = l.length → acc.length ≤ i → clochelaw04_BlocksProduct.l4 (K + m + 1) l w n s r acc i = (blocks_Ways.f K (acc ++ ((List.range' i m).map (lessAt l r)).filter fun x => decide (x > 0))).bind fun bt => (if bt.2 = 0 then (clochelaw04_BlocksProduct.l3 K l w n (wrap64 (s + bt.1)) (wrap64 ((r : Int) + 1))) else (some false))
  | 0, K, i, acc, h, ha => by
    show clochelaw04_BlocksProduct.l4 (K + 1) l w n s r acc i = _
    simp only [clochelaw04_BlocksProduct.l4]
    rw [if_neg (by omega)]
    simp
  | m + 1, K, i, acc, h, ha => by
    have hl := hs.len
    have hx := hs.bound _ (getD_mem (show i < l.length by omega))
    obtain ⟨F, hF⟩ : ∃ F, F = K + m + 1 := ⟨_, rfl⟩
    have ih := fun acc' h' => P_l4 l hs w n s r m K (i + 1) acc' (by omega) h'
    rw [← hF] at ih
    rw [show K + (m + 1) + 1 = F + 1 by rw [hF]; rfl, range'_succ', List.map_cons]
    have hat : lessAt l r i = if i = r then l.getD i 0 - 1 else l.getD i 0 := rfl
    have ew : wrap64 (l.getD i 0 - 1) = l.getD i 0 - 1 := w64 (by omega) (by omega)
    simp only [clochelaw04_BlocksProduct.l4]
    rw [if_pos (by omega), if_pos (by omega), rdn, inc64 i (by omega), ew]
    by_cases he : i = r
    · rw [if_pos he] at hat
      rw [if_pos (show (i : Int) = (r : Int) by omega)]
      by_cases hz : l.getD i 0 - 1 > 0
      · rw [if_pos hz, if_pos (by omega), ih _ (by simp; omega), List.filter_cons, hat, decide_eq_true hz, if_pos rfl, List.append_assoc]
        rfl
      · rw [if_neg hz, ih _ (by omega), List.filter_cons, hat, decide_eq_false hz, if_neg (by decide)]
    · rw [if_neg he] at hat
      rw [if_neg (show ¬ (i : Int) = (r : Int) by omega), if_pos (by omega), if_pos (by omega), ih _ (by simp; omega), List.filter_cons, hat, decide_eq_true (show l.getD i 0 > 0 by omega), if_pos rfl, List.append_assoc]
      rfl
theorem waysN_le (l : List Int) {n : Nat} (h : n ≤ 20) : waysN l n ≤ 2432902008176640000 := Nat.le_trans (Nat.div_le_self _ _) (facN_le h)
theorem sumC_nonneg (l : List Int) (n : Nat) : ∀ m i, sumC l n i (m + 1) = con l n i + sumC l n (i + 1) m := fun _ _ => rfl
theorem P_l3 (l : List Int) (hs : Shp l) {n : Nat} (hn : l.sum = n) (h20 : n ≤ 20) (h0 : 1 ≤ n) : ∀ m k (r s : Nat), r + m = l.length → 20 * m + 1600 ≤ k → s + sumC l n r m = waysN l n → clochelaw04_BlocksProduct.l3 k l (waysN l n : Int) n (s : Int) r = some true
  | 0, k, r, s, h, hk, hsum => by
    obtain ⟨k, rfl, _⟩ := succK (show 0 < k by omega)
    have hsum : s = waysN l n := hsum
    simp only [clochelaw04_BlocksProduct.l3]
    rw [if_neg (by omega), if_neg (by omega), hsum, if_pos rfl, alive k (by omega)]
    rfl
  | m + 1, k, r, s, h, hk, hsum => by
    have hl := hs.len
    have hw := waysN_le l h20
    rw [sumC_nonneg] at hsum
    obtain ⟨K, rfl⟩ : ∃ K, k = (K + l.length + 1) + 1 + 1 := ⟨k - l.length - 3, by omega⟩
    have hcond : clochelaw04_BlocksProduct.l3 ((K + l.length + 1) + 1 + 1) l (waysN l n : Int) n (s : Int) r = clochelaw04_BlocksProduct.j6 ((K + l.length + 1) + 1) l (waysN l n : Int) n (s : Int) r (skip l r) := by
      generalize (K + l.length + 1) + 1 = F
      simp only [clochelaw04_BlocksProduct.l3]
      rw [if_pos (by omega), inc64 r (by omega)]
      by_cases h1 : r + 1 < l.length
      · rw [if_pos (by omega), if_pos (by omega), if_pos (by omega), rdn, rdn]
        unfold skip
        rw [decide_eq_true h1, Bool.true_and]
        congr 1
      · rw [if_neg (by omega)]
        unfold skip
        rw [decide_eq_false h1, Bool.false_and]
    rw [hcond]
    cases hk2 : skip l r
    · obtain ⟨hs2, hsum2⟩ := (okC_of hs hn h20).1 r (by omega) hk2
      have hcon : con l n r = waysN (lessL l r) (n - 1) := by
        unfold con
        rw [hk2, if_neg (by decide)]
      have h4 := P_l4 l hs (waysN l n : Int) n (s : Int) r l.length K 0 [] (by omega) (by simp)
      rw [List.nil_append] at h4
      have hW := bWays_small (lessL l r) hs2 (n := n - 1) (by omega) (by omega) K (by omega)
      have h4 : clochelaw04_BlocksProduct.l4 (K + l.length + 1) l (waysN l n : Int) n (s : Int) r [] ((0 : Nat) : Int) = (blocks_Ways.f K (lessL l r)).bind fun bt => (if bt.2 = 0 then (clochelaw04_BlocksProduct.l3 K l (waysN l n : Int) n (wrap64 ((s : Int) + bt.1)) (wrap64 ((r : Int) + 1))) else (some false)) := h4
      have ih := P_l3 l hs hn h20 h0 m K (r + 1) (s + waysN (lessL l r) (n - 1)) (by omega) (by omega) (by rw [← hcon]; omega)
      have hws : wrap64 ((s : Int) + (waysN (lessL l r) (n - 1) : Int)) = ((s + waysN (lessL l r) (n - 1) : Nat) : Int) := by
        have : (s : Int) + (waysN (lessL l r) (n - 1) : Int) = ((s + waysN (lessL l r) (n - 1) : Nat) : Int) := by omega
        rw [this]
        exact wN _ (by omega)
      rw [hW, Option.bind_some] at h4
      obtain ⟨F, hF⟩ : ∃ F, F = K + l.length + 1 := ⟨_, rfl⟩
      rw [← hF] at h4 ⊢
      simp only [clochelaw04_BlocksProduct.j6]
      rw [if_neg (by decide)]
      refine Eq.trans h4 ?_
      rw [if_pos rfl, hws, inc64 r (by omega)]
      exact ih
    · have hcon : con l n r = 0 := by
        unfold con
        rw [hk2, if_pos rfl]
      have ih := P_l3 l hs hn h20 h0 m (K + l.length + 1) (r + 1) s (by omega) (by omega) (by omega)
      obtain ⟨F, hF⟩ : ∃ F, F = K + l.length + 1 := ⟨_, rfl⟩
      rw [← hF] at ih ⊢
      simp only [clochelaw04_BlocksProduct.j6]
      rw [if_pos trivial, inc64 r (by omega)]
      exact ih
theorem BlocksProduct : clochelaw04_BlocksProduct.Pure := by
  intro l _ _ _
  obtain ⟨k, hk⟩ : ∃ k, k = 3000 := ⟨_, rfl⟩
  refine ⟨k + 1, ?_⟩
  have hA := alive k (by omega)
  unfold clochelaw04_BlocksProduct.f
  rw [few_f l _ (by omega), Option.bind_some]
  have hbad : clochelaw04_BlocksProduct.j0 (k + 1) l true = some true := by
    simp only [clochelaw04_BlocksProduct.j0]
    rw [if_pos trivial, hA]
    rfl
  by_cases hL : l.length ≤ 60
  · rw [decide_eq_true hL, if_pos rfl, rIs_f l _ (by omega), Option.bind_some]
    cases h : isShp l
    · exact hbad
    · have hs := (isShp_iff l).1 h
      have hl := hs.len
      have hnn := sum_nonneg' l (fun y hy => (hs.bound y hy).1)
      obtain ⟨n, hn⟩ : ∃ n : Nat, l.sum = n := ⟨l.sum.toNat, by omega⟩
      have hS := rSum_f l hs k (by omega)
      simp only [clochelaw04_BlocksProduct.j0, Bool.not_true]
      rw [if_neg (by decide)]
      by_cases h20 : n ≤ 20
      · have hW := bWays_small l hs hn h20 k (by omega)
        have hH : blocks_Hooks.f k l = some (Pure.hk l, 0) := by
          unfold blocks_Hooks.f
          rw [bIs_f l k (by omega), Option.bind_some, h, if_pos rfl, hooks_f l hs k (by omega), Option.bind_some]
        have hSm := small hs hn h20
        have hpos := prod_pos_of hSm.bd
        obtain ⟨Q, hQ⟩ := hSm.dvd
        have hq : waysN l n = Q := by
          unfold waysN
          rw [hQ, Nat.mul_div_cancel_left _ hpos]
        have hQpos : 0 < Q := by
          rcases Nat.eq_zero_or_pos Q with e | e
          · rw [e] at hQ
            have := facN_pos n
            omega
          · exact e
        have hLlen : (hN l).length = l.length := by simp [hN, Pure.hk]
        rw [hW, Option.bind_some, hS, Option.bind_some, if_neg (by omega), hH, Option.bind_some, if_pos rfl, if_pos rfl, decide_eq_false (by omega), hSm.hk, hn]
        obtain ⟨F, hF⟩ : ∃ F, k = F + 1 := ⟨k - 1, by omega⟩
        rw [hF]
        simp only [clochelaw04_BlocksProduct.j1]
        rw [if_neg (by decide)]
        have hfac : ∃ F', F ≤ F' + 21 ∧ clochelaw04_BlocksProduct.l0 F l (waysN l n : Int) n ((hN l).map cs) 1 2 = clochelaw04_BlocksProduct.l1 F' l (waysN l n : Int) n ((hN l).map cs) (facN n : Int) 0 := by
          have hend : ∀ F' i, n < i → clochelaw04_BlocksProduct.l0 (F' + 1) l (waysN l n : Int) n ((hN l).map cs) (facN n : Int) (i : Nat) = clochelaw04_BlocksProduct.l1 F' l (waysN l n : Int) n ((hN l).map cs) (facN n : Int) 0 := by
            intro F' i hi
            simp only [clochelaw04_BlocksProduct.l0]
            rw [if_neg (by omega)]
          by_cases h2 : n ≤ 1
          · have hone : (1 : Int) = (facN n : Int) := by
              have : n = 0 ∨ n = 1 := by omega
              rcases this with rfl | rfl <;> rfl
            refine ⟨F - 1, by omega, ?_⟩
            obtain ⟨G, rfl⟩ : ∃ G, F = G + 1 := ⟨F - 1, by omega⟩
            rw [hone]
            exact hend G 2 (by omega)
          · obtain ⟨G, rfl⟩ : ∃ G, F = (G + 1) + (n + 1 - 2) := ⟨F - (n + 1 - 2) - 1, by omega⟩
            refine ⟨G, by omega, ?_⟩
            have h0 := P_l0 l (waysN l n : Int) n h20 ((hN l).map cs) (n + 1 - 2) (G + 1) 2 (by omega) (by omega)
            exact Eq.trans h0 (hend G (n + 1) (by omega))
        obtain ⟨F', hF', e0⟩ := hfac
        refine Eq.trans e0 ?_
        have hf20 := facN_le h20
        obtain ⟨k', hk', e1⟩ := P_l1 l n (hN l) (by omega) hSm.bd hSm.len Q (hN l).length F' 0 (facN n) (by omega) (by omega) (by rw [List.drop_zero, hQ, Nat.mul_comm]) (by omega)
        rw [hq]
        refine Eq.trans e1 ?_
        by_cases h0 : 1 ≤ n
        · have hC := (okC_of hs hn h20).2
          have := P_l3 l hs hn h20 h0 l.length k' 0 0 (by omega) (by omega) (by rcases hC with c | c; omega; omega)
          rw [hq] at this
          exact this
        · have hn0 : n = 0 := by omega
          subst hn0
          have hl0 : l = [] := by
            cases l with
            | nil => rfl
            | cons a t =>
              have h1 := hs.bound a List.mem_cons_self
              have h2 := sum_nonneg' t (fun y hy => (hs.bound y (List.mem_cons_of_mem _ hy)).1)
              rw [List.sum_cons] at hn
              omega
          have hQ1 : Q = 1 := Nat.eq_one_of_dvd_one ⟨prodN (hN l).flatten, by have h5 : facN 0 = 1 := rfl; rw [h5] at hQ; rw [hQ, Nat.mul_comm]⟩
          subst hl0
          rw [hQ1]
          obtain ⟨k', rfl, _⟩ := succK (show 0 < k' by omega)
          simp only [clochelaw04_BlocksProduct.l3]
          rw [if_neg (by simp), if_pos (show ((0 : Nat) : Int) = 0 from rfl), if_pos (show ((1 : Nat) : Int) = 1 from rfl), alive k' (by omega)]
          rfl
      · have hW : blocks_Ways.f k l = some (0, 8) := by
          unfold blocks_Ways.f
          rw [bIs_f l k (by omega), Option.bind_some, h, if_pos rfl, total_f l (by omega) (fun x hx => by have := hs.bound x hx; omega) k (by omega), Option.bind_some, if_pos (by omega)]
        rw [hW, Option.bind_some, hS, Option.bind_some, if_pos (by omega), if_pos rfl, if_pos rfl, hA]
        rfl
  · rw [decide_eq_false hL, if_neg (by decide)]
    exact hbad
end Go.Proofs.Ytcmphfcpiciehaa.Pure
