/- Ways of a shape, whole: the code's and the specification's. -/
import Derived.Test.YtcmphfcpiciehaaBWays
namespace Go.Proofs.Ytcmphfcpiciehaa.Pure
open Go.RowKit Go.Proofs.Ytcmphfcpiciehaa.Print Go.Proofs.YtcmphfcpiciehaaW.PrintWords Go.Proofs.YtcmphfcpiciehaaW.PrintLast Go.Proofs.YtcmphfcpiciehaaW.PrintMore
theorem rdL (a : List (List Int)) (i : Nat) : rd_L1 a (i : Int) = a.getD i [] := by
  unfold rd_L1
  rw [Int.toNat_natCast]
theorem drop_getDL {a : List (List Int)} {i : Nat} (h : i < a.length) : a.drop i = a.getD i [] :: a.drop (i + 1) := by
  rw [List.drop_eq_getElem_cons h, List.getD_eq_getElem?_getD, List.getElem?_eq_getElem h]
  rfl
theorem getDL_mem {a : List (List Int)} {i : Nat} (h : i < a.length) : a.getD i [] ∈ a := by
  rw [List.getD_eq_getElem?_getD, List.getElem?_eq_getElem h]
  exact List.getElem_mem h
theorem Concat_l1 (a : List (List Int)) (ha : a.length ≤ 1000) (hb : ∀ x ∈ a, x.length ≤ 1000) : ∀ n k (i : Nat) (acc : List Int), i + n = a.length → n < k → acc.length ≤ 1000 * i → slices_Concat_int_int.l1 k acc a a.length i = some (acc ++ (a.drop i).flatten)
  | 0, k, i, acc, h, hk, _ => by
    obtain ⟨k, rfl, _⟩ := succK hk
    simp only [slices_Concat_int_int.l1]
    rw [if_neg (by omega), List.drop_eq_nil_of_le (by omega)]
    simp
  | n + 1, k, i, acc, h, hk, hl => by
    obtain ⟨k, rfl, hk'⟩ := succK hk
    have hi : i < a.length := by omega
    have hx := hb _ (getDL_mem hi)
    have ih := Concat_l1 a ha hb n k (i + 1) (acc ++ a.getD i []) (by omega) (by omega) (by rw [List.length_append]; omega)
    simp only [slices_Concat_int_int.l1]
    rw [if_pos (by omega), if_pos (by omega), if_pos (by omega), rdL, if_pos (by omega), inc64 i (by omega)]
    refine Eq.trans ih ?_
    rw [drop_getDL hi, List.flatten_cons, List.append_assoc]
theorem Concat_l0 (a : List (List Int)) (ha : a.length ≤ 1000) (hb : ∀ x ∈ a, x.length ≤ 1000) : ∀ n k (i : Nat) (s : Int), i + n = a.length → n + a.length + 2 ≤ k → 0 ≤ s → s ≤ 1000 * i → slices_Concat_int_int.l0 k a s a a.length i = some a.flatten
  | 0, k, i, s, h, hk, h0, h1 => by
    obtain ⟨k, rfl, _⟩ := succK (show 0 < k by omega)
    have hL := Concat_l1 a ha hb a.length k 0 [] (by omega) (by omega) (by simp)
    simp only [slices_Concat_int_int.l0]
    rw [if_neg (by omega)]
    unfold slices_Grow_int_int.f
    rw [if_pos ⟨rfl, h0, by omega⟩, Option.bind_some]
    exact hL
  | n + 1, k, i, s, h, hk, h0, h1 => by
    obtain ⟨k, rfl, hk'⟩ := succK (show 0 < k by omega)
    have hi : i < a.length := by omega
    have hx := hb _ (getDL_mem hi)
    have e1 : wrap64 (s + ((a.getD i []).length : Int)) = s + ((a.getD i []).length : Int) := w64 (by omega) (by omega)
    have ih := Concat_l0 a ha hb n k (i + 1) (s + ((a.getD i []).length : Int)) (by omega) (by omega) (by omega) (by omega)
    simp only [slices_Concat_int_int.l0]
    rw [if_pos (by omega), if_pos (by omega), if_pos (by omega), rdL, e1, if_neg (by omega), inc64 i (by omega)]
    exact ih
theorem Concat_f (a : List (List Int)) (ha : a.length ≤ 1000) (hb : ∀ x ∈ a, x.length ≤ 1000) (k : Nat) (hk : 2 * a.length + 2 ≤ k) : slices_Concat_int_int.f k a = some a.flatten := by
  unfold slices_Concat_int_int.f
  have := Concat_l0 a ha hb a.length k 0 0 (by omega) (by omega) (Int.le_refl _) (by simp)
  exact this
/-! ### the hooks as natural numbers -/
def hN (l : List Int) : List (List Nat) := (hk l).map fun x => x.map Int.toNat
theorem cs_toNat : ∀ x : List Int, (∀ h ∈ x, 0 ≤ h) → cs (x.map Int.toNat) = x
  | [], _ => rfl
  | a :: x, h => by
    have h1 := h a List.mem_cons_self
    have h2 := cs_toNat x (fun y hy => h y (List.mem_cons_of_mem _ hy))
    show ((a.toNat : Nat) : Int) :: cs (x.map Int.toNat) = a :: x
    rw [h2, Int.toNat_of_nonneg h1]
theorem map_cs : ∀ a : List (List Int), (∀ h ∈ a.flatten, 0 ≤ h) → (a.map fun x => x.map Int.toNat).map cs = a
  | [], _ => rfl
  | x :: a, h => by
    simp only [List.map_cons]
    rw [map_cs a (fun y hy => h y (by rw [List.flatten_cons]; exact List.mem_append_right _ hy)), cs_toNat x (fun y hy => h y (by rw [List.flatten_cons]; exact List.mem_append_left _ hy))]
theorem flatten_cs (L : List (List Nat)) : (L.map cs).flatten = cs L.flatten := by
  unfold cs
  rw [List.map_flatten]
theorem prodI_cs (ns : List Nat) : prodI (cs ns) = (prodN ns : Int) := by
  have h : ∀ (ns : List Nat) (a : Int), (cs ns).foldl (fun a x => a * x) a = a * (prodN ns : Int) := by
    intro ns
    induction ns with
    | nil => intro a; simp [cs, prodN]
    | cons x ns ih =>
      intro a
      show (cs ns).foldl (fun a x => a * x) (a * (x : Int)) = a * ((x * prodN ns : Nat) : Int)
      rw [ih, Int.natCast_mul, Int.mul_assoc]
  have := h ns 1
  rw [Int.one_mul] at this
  exact this
/-- What the kernel has checked of a small shape. -/
structure Small (l : List Int) (n : Nat) (L : List (List Nat)) : Prop where
  hk : hk l = L.map cs
  dvd : prodN L.flatten ∣ facN n
  bd : ∀ x ∈ L.flatten, 0 < x ∧ x ≤ 100
  len : L.flatten.length ≤ 20
theorem small {l : List Int} (hs : Shp l) {n : Nat} (hn : l.sum = n) (h20 : n ≤ 20) : Small l n (hN l) := by
  have hm := hs.parts hn h20
  have hok := List.all_eq_true.1 (okP_all h20) l hm
  simp only [okP, Bool.and_eq_true, decide_eq_true_eq] at hok
  obtain ⟨⟨h1, h2⟩, h3⟩ := hok
  have hb : ∀ x ∈ (hk l).flatten, 1 ≤ x ∧ x ≤ 100 := fun x hx => by
    have := List.all_eq_true.1 h2 x hx
    simpa using this
  have e : (hN l).map cs = hk l := map_cs (hk l) (fun x hx => by have := hb x hx; omega)
  have ef : (hk l).flatten = cs (hN l).flatten := by rw [← e, flatten_cs]
  refine ⟨e.symm, ?_, fun x hx => ?_, ?_⟩
  · rw [ef, prodI_cs, facI_eq] at h1
    exact Int.natCast_dvd_natCast.1 (Int.dvd_of_emod_eq_zero h1)
  · have hx' : ((x : Nat) : Int) ∈ cs (hN l).flatten := List.mem_map.2 ⟨x, hx, rfl⟩
    rw [← ef] at hx'
    have := hb _ hx'
    omega
  · rw [ef, cs_length] at h3
    exact h3
/-! ### the specification's division -/
theorem prodN_append : ∀ a b : List Nat, prodN (a ++ b) = prodN a * prodN b
  | [], b => by simp [prodN]
  | x :: a, b => by
    show x * prodN (a ++ b) = x * prodN a * prodN b
    rw [prodN_append a b, Nat.mul_assoc]
theorem drop_getDN {a : List Nat} {i : Nat} (h : i < a.length) : a.drop i = a.getD i 0 :: a.drop (i + 1) := by
  rw [List.drop_eq_getElem_cons h, List.getD_eq_getElem?_getD, List.getElem?_eq_getElem h]
  rfl
theorem drop_getDLN {a : List (List Nat)} {i : Nat} (h : i < a.length) : a.drop i = a.getD i [] :: a.drop (i + 1) := by
  rw [List.drop_eq_getElem_cons h, List.getD_eq_getElem?_getD, List.getElem?_eq_getElem h]
  rfl
theorem rdcs (L : List (List Nat)) (r : Nat) : rd_L1 (L.map cs) (r : Int) = cs (L.getD r []) := by
  rw [rdL, List.getD_eq_getElem?_getD, List.getD_eq_getElem?_getD, List.getElem?_map]
  cases L[r]? <;> rfl
theorem rW_l2 (L : List (List Nat)) (hL : L.length ≤ 1000) (r : Nat) (hr : r < L.length) (hb : ∀ x ∈ L.getD r [], 0 < x ∧ x ≤ 100) (hlen : (L.getD r []).length ≤ 1000) (Q : Nat) : ∀ m K (c o : Nat), c + m = (L.getD r []).length → o = Q * prodN ((L.getD r []).drop c) → o ≤ 9223372036854775807 → clocheref04_Ways.l2 (K + m + 1) (o : Int) (L.map cs) r c = clocheref04_Ways.l1 K (Q : Int) (L.map cs) ((r + 1 : Nat) : Int)
  | 0, K, c, o, h, ho, h1 => by
    rw [List.drop_eq_nil_of_le (by omega)] at ho
    have ho : o = Q := by rw [ho]; exact Nat.mul_one _
    subst ho
    show clocheref04_Ways.l2 (K + 1) (o : Int) (L.map cs) r c = _
    simp only [clocheref04_Ways.l2]
    rw [if_pos (by omega), if_pos (by rw [List.length_map]; omega), rdcs, if_neg (by rw [cs_length]; omega), inc64 r (by omega)]
  | m + 1, K, c, o, h, ho, h1 => by
    have hc : c < (L.getD r []).length := by omega
    have hx := hb _ (getD_memN hc)
    obtain ⟨F, hF⟩ : ∃ F, F = K + m + 1 := ⟨_, rfl⟩
    rw [drop_getDN hc] at ho
    have ho : o = Q * ((L.getD r []).getD c 0 * prodN ((L.getD r []).drop (c + 1))) := ho
    have hdiv : o / (L.getD r []).getD c 0 = Q * prodN ((L.getD r []).drop (c + 1)) := by
      rw [ho, Nat.mul_left_comm, Nat.mul_div_cancel_left _ hx.1]
    have hle : o / (L.getD r []).getD c 0 ≤ o := Nat.div_le_self _ _
    have ih := rW_l2 L hL r hr hb hlen Q m K (c + 1) (o / (L.getD r []).getD c 0) (by omega) hdiv (by omega)
    rw [← hF] at ih
    rw [show K + (m + 1) + 1 = F + 1 by rw [hF]; rfl]
    simp only [clocheref04_Ways.l2]
    rw [if_pos (by omega), if_pos (by rw [List.length_map]; omega), rdcs, if_pos (by rw [cs_length]; omega), if_pos (by omega), rdn, cs_getD, if_neg (by omega), tdivN, wN _ (by omega), inc64 c (by omega)]
    exact ih
theorem rW_l1 (L : List (List Nat)) (hL : L.length ≤ 1000) (hb : ∀ x ∈ L.flatten, 0 < x ∧ x ≤ 100) (hlen : L.flatten.length ≤ 20) (Q : Nat) : ∀ m k (r o : Nat), r + m = L.length → 23 * m + 2 ≤ k → o = Q * prodN (L.drop r).flatten → o ≤ 9223372036854775807 → clocheref04_Ways.l1 k (o : Int) (L.map cs) r = some ((Q : Int), 0)
  | 0, k, r, o, h, hk, ho, h1 => by
    obtain ⟨k, rfl, _⟩ := succK (show 0 < k by omega)
    rw [List.drop_eq_nil_of_le (by omega)] at ho
    have ho : o = Q := by rw [ho]; exact Nat.mul_one _
    subst ho
    simp only [clocheref04_Ways.l1]
    rw [if_neg (by rw [List.length_map]; omega)]
  | m + 1, k, r, o, h, hk, ho, h1 => by
    have hr : r < L.length := by omega
    have hsub : ∀ x ∈ L.getD r [], x ∈ L.flatten := fun x hx => List.mem_flatten.2 ⟨_, by
      rw [List.getD_eq_getElem?_getD, List.getElem?_eq_getElem hr]
      exact List.getElem_mem hr, hx⟩
    have hl20 : (L.getD r []).length ≤ 20 := by
      refine Nat.le_trans ?_ hlen
      have e : L.flatten = (L.take r).flatten ++ (L.getD r [] ++ (L.drop (r + 1)).flatten) := by
        rw [← List.flatten_cons, ← drop_getDLN hr, ← List.flatten_append, List.take_append_drop]
      rw [e]
      simp
      omega
    obtain ⟨K, rfl⟩ : ∃ K, k = (K + (L.getD r []).length + 1) + 1 := ⟨k - (L.getD r []).length - 2, by omega⟩
    rw [drop_getDLN hr, List.flatten_cons, prodN_append] at ho
    have hpos : 0 < prodN (L.getD r []) := prodN_pos _ (fun x hx => (hb x (hsub x hx)).1)
    have h2 := rW_l2 L hL r hr (fun x hx => hb x (hsub x hx)) (by omega) (Q * prodN (L.drop (r + 1)).flatten) (L.getD r []).length K 0 o (by omega) (by rw [ho, List.drop_zero, Nat.mul_assoc, Nat.mul_comm (prodN (L.getD r []))]) h1
    have hle : Q * prodN (L.drop (r + 1)).flatten ≤ o := by
      rw [ho, Nat.mul_left_comm]
      exact Nat.le_mul_of_pos_left _ hpos
    have ih := rW_l1 L hL hb hlen Q m K (r + 1) (Q * prodN (L.drop (r + 1)).flatten) (by omega) (by omega) rfl (by omega)
    obtain ⟨F, hF⟩ : ∃ F, F = K + (L.getD r []).length + 1 := ⟨_, rfl⟩
    rw [← hF] at h2 ⊢
    simp only [clocheref04_Ways.l1]
    rw [if_pos (by rw [List.length_map]; omega)]
    exact h2.trans ih
theorem rW_l0 (l : List Int) (N : Nat) (hN : N ≤ 20) (L : List (List Int)) : ∀ m k (i : Nat), i + m = N + 1 → 2 ≤ i + 1 → 1 ≤ i → (hLen : ∀ k', 900 ≤ k' → clocheref04_Lengths.f k' l = some L) → m + 901 ≤ k → clocheref04_Ways.l0 k l N (facN (i - 1) : Int) i = clocheref04_Ways.l0 (k - m) l N (facN N : Int) ((N + 1 : Nat) : Int)
  | 0, k, i, h, _, _, _, _ => by
    have : i = N + 1 := by omega
    subst this
    rfl
  | m + 1, k, i, h, h1, h2, hLen, hk => by
    obtain ⟨k, rfl, hk'⟩ := succK (show 0 < k by omega)
    have hf : facN i = facN (i - 1) * i := by
      obtain ⟨j, rfl⟩ : ∃ j, i = j + 1 := ⟨i - 1, by omega⟩
      rfl
    have hf20 := facN_le (n := i) (by omega)
    have hw : wrap64 ((facN (i - 1) : Int) * (i : Int)) = (facN (i + 1 - 1) : Int) := by
      have : (facN (i - 1) : Int) * (i : Int) = ((facN i : Nat) : Int) := by rw [hf, Int.natCast_mul]
      rw [this, Nat.add_sub_cancel]
      exact wN _ (by omega)
    have ih := rW_l0 l N hN L m k (i + 1) (by omega) (by omega) (by omega) hLen (by omega)
    rw [show k + 1 - (m + 1) = k - m by omega, ← ih]
    simp only [clocheref04_Ways.l0]
    rw [if_pos (by omega), hw, inc64 i (by omega)]
theorem prod_pos_of {L : List (List Nat)} (hb : ∀ x ∈ L.flatten, 0 < x ∧ x ≤ 100) : 0 < prodN L.flatten := prodN_pos _ (fun x hx => (hb x hx).1)
/-- Ways of a small shape: the product of 1 to n over the product of the hooks. -/
def waysN (l : List Int) (n : Nat) : Nat := facN n / prodN (hN l).flatten
theorem bWays_small (l : List Int) (hs : Shp l) {n : Nat} (hn : l.sum = n) (h20 : n ≤ 20) (k : Nat) (hk1 : 1500 ≤ k) : blocks_Ways.f k l = some ((waysN l n : Int), 0) := by
  have hS := small hs hn h20
  have hl := hs.len
  have htot := total_f l (by omega) (fun x hx => by have := hs.bound x hx; omega) k (by omega)
  have hsm := hk_small hs
  unfold blocks_Ways.f
  rw [bIs_f l k (by omega), Option.bind_some, (isShp_iff l).2 hs, if_pos rfl, htot, Option.bind_some, if_neg (by omega), hooks_f l hs k (by omega), Option.bind_some, Concat_f (hk l) (by omega) (fun x hx => by have := hsm.2 x hx; omega) k (by omega), Option.bind_some, Option.bind_some, hS.hk, flatten_cs, hn]
  have hpos := prod_pos_of hS.bd
  obtain ⟨o, ns, e, r1, r2, r3⟩ := Ways_l0 (prodN (hN l).flatten) n h20 n k 0 1 (hN l).flatten (by omega) hS.len (by omega) ⟨rfl, Nat.dvd_refl _, Nat.one_pos, hS.bd⟩ (fun h => by omega)
  refine Eq.trans e ?_
  obtain ⟨Q, hQ⟩ := hS.dvd
  have hq : waysN l n = Q := by
    unfold waysN
    rw [hQ, Nat.mul_div_cancel_left _ hpos]
  have hoQ : o = Q * prodN ns := by
    refine Nat.eq_of_mul_eq_mul_right hpos ?_
    rw [r1.eq, hQ, Nat.mul_comm (prodN (hN l).flatten) Q, Nat.mul_right_comm]
  have hone : prodN ns = 1 := by
    rcases Nat.eq_zero_or_pos n with e0 | e0
    · subst e0
      have h1 : prodN (hN l).flatten = 1 := Nat.eq_one_of_dvd_one hS.dvd
      have h2 := r1.eq
      have h3 := r1.dvd
      have h4 : o = 1 := Nat.eq_one_of_dvd_one h3
      rw [h1, h4] at h2
      have h5 : (1 : Nat) * 1 = 1 * prodN ns := h2
      omega
    · refine prodN_one ns fun x hx => ?_
      obtain ⟨j, hj, ej⟩ := List.mem_iff_getElem.1 hx
      have hc := r3 e0 j hj
      rw [List.getD_eq_getElem?_getD, List.getElem?_eq_getElem hj] at hc
      have hc : Nat.Coprime o x := by rw [← ej]; exact hc
      have hd : x ∣ o := by rw [hoQ]; exact Nat.dvd_trans (dvd_prodN ns x hx) (Nat.dvd_mul_left _ _)
      have := Nat.dvd_gcd hd (Nat.dvd_refl x)
      rw [hc] at this
      exact Nat.eq_one_of_dvd_one this
  rw [hq, hoQ, hone, Nat.mul_one]
theorem sum_f (l : List Int) (hl : l.length ≤ 12) (hb : ∀ x ∈ l, 1 ≤ x ∧ x ≤ 40) : ∀ n k (i : Nat) (a : Int), i + n = l.length → n < k → 0 ≤ a → a ≤ 40 * i → clocheref04_Sum.l0 k l a i = some (a + (l.drop i).sum)
  | 0, k, i, a, h, hk, _, _ => by
    obtain ⟨k, rfl, _⟩ := succK hk
    simp only [clocheref04_Sum.l0]
    rw [if_neg (by omega), List.drop_eq_nil_of_le (by omega)]
    simp
  | n + 1, k, i, a, h, hk, h0, h1 => by
    obtain ⟨k, rfl, hk'⟩ := succK hk
    have hi : i < l.length := by omega
    have hx := hb _ (getD_mem hi)
    have ih := sum_f l hl hb n k (i + 1) (a + l.getD i 0) (by omega) (by omega) (by omega) (by omega)
    simp only [clocheref04_Sum.l0]
    rw [if_pos (by omega), if_pos (by omega), rdn, w64 (by omega) (by omega), inc64 i (by omega), ih, drop_getD hi, List.sum_cons, Int.add_assoc]
theorem rSum_f (l : List Int) (hs : Shp l) (k : Nat) (hk : 13 ≤ k) : clocheref04_Sum.f k l = some l.sum := by
  have hl := hs.len
  unfold clocheref04_Sum.f
  have := sum_f l hl hs.bound l.length k 0 0 (by omega) (by omega) (Int.le_refl _) (by simp)
  rw [List.drop_zero, Int.zero_add] at this
  exact this
theorem rWays_small (l : List Int) (hs : Shp l) {n : Nat} (hn : l.sum = n) (h20 : n ≤ 20) (k : Nat) (hk1 : 1500 ≤ k) : clocheref04_Ways.f k l = some ((waysN l n : Int), 0) := by
  have hS := small hs hn h20
  have hl := hs.len
  have hpos := prod_pos_of hS.bd
  have hsm := hk_small hs
  have hLlen : (hN l).length = (hk l).length := by simp [hN]
  unfold clocheref04_Ways.f
  rw [rIs_f l k (by omega), Option.bind_some, (isShp_iff l).2 hs, if_pos rfl, rSum_f l hs k (by omega), Option.bind_some, if_neg (by omega), hn]
  obtain ⟨Q, hQ⟩ := hS.dvd
  have hq : waysN l n = Q := by
    unfold waysN
    rw [hQ, Nat.mul_div_cancel_left _ hpos]
  have hLen : ∀ k', 900 ≤ k' → clocheref04_Lengths.f k' l = some (hk l) := fun k' h => Len_f l hs k' h
  have hfin : ∀ k' o i, 1200 ≤ k' → n < i → o = (facN n : Int) → clocheref04_Ways.l0 k' l (n : Int) o (i : Nat) = some ((Q : Int), 0) := by
    intro k' o i hk' hi ho
    obtain ⟨k', rfl, _⟩ := succK (show 0 < k' by omega)
    simp only [clocheref04_Ways.l0]
    rw [if_neg (by omega), hLen k' (by omega), Option.bind_some, hS.hk, ho]
    have hf20 := facN_le h20
    exact rW_l1 (hN l) (by omega) hS.bd hS.len Q (hN l).length k' 0 (facN n) (by omega) (by omega) (by rw [List.drop_zero, hQ, Nat.mul_comm]) (by omega)
  rw [hq]
  by_cases h2 : n ≤ 1
  · have hone : (1 : Int) = (facN n : Int) := by
      have : n = 0 ∨ n = 1 := by omega
      rcases this with rfl | rfl <;> rfl
    exact hfin k 1 2 (by omega) (by omega) hone
  · have h0 := rW_l0 l n h20 (hk l) (n + 1 - 2) k 2 (by omega) (by omega) (by omega) hLen (by omega)
    refine Eq.trans h0 ?_
    exact hfin (k - (n + 1 - 2)) _ (n + 1) (by omega) (by omega) rfl
end Go.Proofs.Ytcmphfcpiciehaa.Pure
