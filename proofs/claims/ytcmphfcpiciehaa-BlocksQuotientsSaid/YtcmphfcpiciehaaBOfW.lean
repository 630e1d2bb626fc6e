/- Of in both packages: the beads of the core moved up wire by wire. -/
import Derived.Test.YtcmphfcpiciehaaBOf
import Derived.Test.YtcmphfcpiciehaaPrintx8
import Derived.Test.YtcmphfcpiciehaaPrintx19
namespace Go.Proofs.Ytcmphfcpiciehaa.Pure
open Go.RowKit Go.Proofs.Ytcmphfcpiciehaa.Print Go.Proofs.YtcmphfcpiciehaaW.PrintWords Go.Proofs.YtcmphfcpiciehaaW.PrintLast Go.Proofs.YtcmphfcpiciehaaW.PrintMore
set_option linter.unusedVariables false
theorem rdLd (a : List (List Int)) (i : Nat) : rd_L1 a (i : Int) = a.getD i [] := by
  unfold rd_L1
  rw [Int.toNat_natCast]
/-! ### one wire -/
def upAt (T kk m : Nat) (q : List Int) (r : Nat) : Int := ((m : Int) - 1 - r + q.getD r 0) * T + kk
theorem upAt_put {T kk m : Nat} {q : List Int} (h : q.length ≤ m) : (List.range' 0 m).map (upAt T kk m q) = putW T kk m q := by
  unfold putW pad bd
  rw [List.map_map, List.length_append, List.length_replicate, show q.length + (m - q.length) = m by omega]
  refine List.map_congr_left fun r hr => ?_
  rw [List.mem_range'_1] at hr
  have e : (q ++ List.replicate (m - q.length) 0).getD r 0 = q.getD r 0 := by
    rcases Nat.lt_or_ge r q.length with h1 | h1
    · rw [List.getD_eq_getElem?_getD, List.getElem?_append_left h1, List.getD_eq_getElem?_getD]
    · rw [List.getD_eq_getElem?_getD, List.getElem?_append_right h1, List.getD_eq_getElem?_getD, List.getElem?_eq_none h1, List.getElem?_replicate]
      split <;> rfl
  show upAt T kk m q r = bead (q ++ List.replicate (m - q.length) 0) r * T + kk
  unfold upAt bead
  rw [e, List.length_append, List.length_replicate, show q.length + (m - q.length) = m by omega]
  congr 2
  omega
theorem small_mul {a b : Int} {A B : Int} (ha : 0 ≤ a ∧ a ≤ A) (hb : 0 ≤ b ∧ b ≤ B) : 0 ≤ a * b ∧ a * b ≤ A * B := ⟨Int.mul_nonneg ha.1 hb.1, Int.mul_le_mul ha.2 hb.2 hb.1 (Int.le_trans ha.1 ha.2)⟩
theorem getD_small {q : List Int} (hq : ∀ x ∈ q, 0 ≤ x ∧ x ≤ 40) (r : Nat) : 0 ≤ q.getD r 0 ∧ q.getD r 0 ≤ 40 := by
  rcases Nat.lt_or_ge r q.length with h | h
  · exact hq _ (getD_mem h)
  · rw [List.getD_eq_getElem?_getD, List.getElem?_eq_none h]
    exact ⟨Int.le_refl _, by decide⟩
theorem bOf_l2 (Q : List (List Int)) (T : Nat) (h6 : T ≤ 6) (kk : Nat) (hkk : kk < T) (hQ : Q.length = T) (b : List Int) (hb : b.length ≤ 1000) (hq : ∀ x ∈ Q.getD kk [], 0 ≤ x ∧ x ≤ 40) (W : List (List Int)) (x45 x46 : Int) : ∀ n K (r : Nat) (acc : List Int), r + n = b.length → acc.length ≤ 100000 + r → blocks_Of.l2 (K + n + 1) Q T acc kk b W x45 x46 b.length r = blocks_Of.l1 K Q T (acc ++ (List.range' r n).map (upAt T kk b.length (Q.getD kk []))) W x45 (wrap64 (x46 + 1))
  | 0, K, r, acc, h, ha => by
    simp only [blocks_Of.l2]
    rw [if_neg (by omega)]
    simp
  | n + 1, K, r, acc, h, ha => by
    have e1 := inc64 r (by omega)
    have hg := getD_small hq r
    obtain ⟨F, hF⟩ : ∃ F, F = K + n + 1 := ⟨_, rfl⟩
    have ih := bOf_l2 Q T h6 kk hkk hQ b hb hq W x45 x46 n K (r + 1) (acc ++ [upAt T kk b.length (Q.getD kk []) r]) (by omega) (by rw [List.length_append, List.length_singleton]; omega)
    rw [← hF] at ih
    have hm := small_mul (a := (b.length : Int) - 1 - r + (Q.getD kk []).getD r 0) (b := (T : Int)) (A := 1040) (B := 6) (by omega) (by omega)
    have hv : upAt T kk b.length (Q.getD kk []) r = ((b.length : Int) - 1 - r + (Q.getD kk []).getD r 0) * T + kk := rfl
    rw [show K + (n + 1) + 1 = F + 1 by omega]
    simp only [blocks_Of.l2]
    rw [if_pos (by omega), if_pos (by omega), if_pos (by omega), rdLd, w64 (z := (b.length : Int) - 1) (by omega) (by omega), w64 (z := (b.length : Int) - 1 - r) (by omega) (by omega), range'_succ', List.map_cons]
    by_cases hr : (r : Int) < (((Q.getD kk []).length : Nat) : Int)
    · rw [if_pos hr, if_pos (by omega), if_pos (by omega), rdn, w64 (z := (b.length : Int) - 1 - r + (Q.getD kk []).getD r 0) (by omega) (by omega), w64 (z := ((b.length : Int) - 1 - r + (Q.getD kk []).getD r 0) * T) (by omega) (by omega), w64 (by omega) (by omega), e1, ← hv, ih, List.append_assoc]
      rfl
    · have h0 : (Q.getD kk []).getD r 0 = 0 := by rw [List.getD_eq_getElem?_getD, List.getElem?_eq_none (by omega)]; rfl
      rw [h0, Int.add_zero] at hm hv
      rw [if_neg hr, if_pos (by omega), w64 (z := ((b.length : Int) - 1 - r) * T) (by omega) (by omega), w64 (by omega) (by omega), e1, ← hv, ih, List.append_assoc]
      rfl
/-! ### all wires -/
def ofEnd (X : List Int) : Option (List Int × Int) := if isShp (shB (dsort X)) = true then some (shB (dsort X), 0) else some ([], 8)
structure Fit (X : List Int) : Prop where
  db : DB (dsort X)
  len : X.length ≤ 1000
  le : ∀ x ∈ X, 0 ≤ x ∧ x ≤ 1000000
theorem bOf_l1 (Q : List (List Int)) (T : Nat) (h2 : 2 ≤ T) (h6 : T ≤ 6) (hQ : Q.length = T) (hq : ∀ kk, kk < T → ∀ x ∈ Q.getD kk [], 0 ≤ x ∧ x ≤ 40) (W : List (List Int)) (hW : W.length = T) (m : Nat → Nat) (hm : ∀ kk, kk < T → (W.getD kk []).length = m kk ∧ m kk ≤ 1000 ∧ (Q.getD kk []).length ≤ m kk) (X : List Int) (hX : Fit X) : ∀ n k (kk : Nat) (acc : List Int), kk + n = T → 1002 * n + 1100 ≤ k → acc.length ≤ 1000 * kk → acc ++ putA T m (fun j => Q.getD j []) kk n = X → blocks_Of.l1 k Q T acc W T kk = ofEnd X
  | 0, k, kk, acc, h, hk, ha, e => by
    obtain ⟨k, rfl, _⟩ := succK (show 0 < k by omega)
    have e : acc = X := by simpa [putA] using e
    subst e
    have hl := hX.len
    simp only [blocks_Of.l1]
    rw [if_neg (by omega), of_db acc hX.db (by omega) (fun x hx => by have := hX.le x hx; omega) k (by omega), Option.bind_some, bIs_f _ k (by omega), Option.bind_some]
    rfl
  | n + 1, k, kk, acc, h, hk, ha, e => by
    have hkk : kk < T := by omega
    obtain ⟨m1, m2, m3⟩ := hm kk hkk
    obtain ⟨K, rfl⟩ : ∃ K, k = (K + (W.getD kk []).length + 1) + 1 := ⟨k - (W.getD kk []).length - 2, by omega⟩
    have h3 := bOf_l2 Q T h6 kk hkk hQ (W.getD kk []) (by omega) (hq kk hkk) W T kk (W.getD kk []).length K 0 acc (by omega) (by omega)
    rw [m1, upAt_put m3, inc64 kk (by omega)] at h3
    have hpl : (putW T kk (m kk) (Q.getD kk [])).length = m kk := by
      unfold putW
      rw [List.length_map, pad_length m3]
    have ih := bOf_l1 Q T h2 h6 hQ hq W hW m hm X hX n K (kk + 1) (acc ++ putW T kk (m kk) (Q.getD kk [])) (by omega) (by omega) (by rw [List.length_append, hpl]; omega) (by
      rw [List.append_assoc, ← e, putA_succ])
    generalize hF : K + (W.getD kk []).length + 1 = F
    rw [m1] at hF
    rw [hF] at h3
    simp only [blocks_Of.l1]
    rw [if_pos (by omega), if_pos (by omega), if_pos (by omega), rdLd, m1]
    exact h3.trans ih
theorem replicate_app (l : List Int) (n : Nat) : (l ++ [0]) ++ List.replicate n 0 = l ++ List.replicate (n + 1) 0 := by
  rw [List.append_assoc, List.replicate_succ]
  rfl
theorem bOf_l0 (Q : List (List Int)) (T : Nat) (h2 : 2 ≤ T) (h6 : T ≤ 6) (R : Option (List Int × Int)) (L : List Int) (hL : ∀ k, 9000 ≤ k → ((blocks_wires.f k L T).bind fun t => blocks_Of.l1 k Q T [] t (t.length : Int) 0) = R) : ∀ n k (l : List Int), l.length + n = 24 * T → n + 9001 ≤ k → l ++ List.replicate n 0 = L → blocks_Of.l0 k Q T l = R
  | 0, k, l, h, hk, e => by
    obtain ⟨k, rfl, _⟩ := succK (show 0 < k by omega)
    have e : l = L := by simpa using e
    subst e
    simp only [blocks_Of.l0]
    rw [w64 (z := (T : Int) * 12) (by omega) (by omega), w64 (by omega) (by omega), if_neg (by omega)]
    exact hL k (by omega)
  | n + 1, k, l, h, hk, e => by
    obtain ⟨k, rfl, _⟩ := succK (show 0 < k by omega)
    have ih := bOf_l0 Q T h2 h6 R L hL n k (l ++ [0]) (by rw [List.length_append, List.length_singleton]; omega) (by omega) (by rw [replicate_app]; exact e)
    simp only [blocks_Of.l0]
    rw [w64 (z := (T : Int) * 12) (by omega) (by omega), w64 (by omega) (by omega), if_pos (by omega), if_pos (by omega)]
    exact ih
/-! ### what Of looks at -/
def okQ (Q : List (List Int)) : Bool := Q.all isShp
theorem okQ_iff (Q : List (List Int)) : okQ Q = true ↔ ∀ k, k < Q.length → Shp (Q.getD k []) := by
  unfold okQ
  rw [List.all_eq_true]
  constructor
  · intro h k hk
    refine (isShp_iff _).1 (h _ ?_)
    rw [List.getD_eq_getElem?_getD, List.getElem?_eq_getElem hk]
    exact List.getElem_mem hk
  · intro h x hx
    obtain ⟨k, hk, rfl⟩ := List.mem_iff_getElem.1 hx
    have := h k hk
    rw [List.getD_eq_getElem?_getD, List.getElem?_eq_getElem hk] at this
    exact (isShp_iff _).2 this
def okO (c : List Int) (Q : List (List Int)) : Bool := okW c Q.length && okQ Q && decide ((strp Q.length c).length = 0)
structure OkO (c : List Int) (Q : List (List Int)) : Prop where
  of : Of Q.length c (fun k => Q.getD k [])
  h2 : 2 ≤ Q.length
  h6 : Q.length ≤ 6
theorem okO_iff {c : List Int} {Q : List (List Int)} (h : okO c Q = true) : OkO c Q := by
  unfold okO at h
  rw [Bool.and_eq_true, Bool.and_eq_true, decide_eq_true_eq] at h
  obtain ⟨hs, a, b⟩ := okW_iff h.1.1
  exact ⟨⟨hs, List.eq_nil_of_length_eq_zero h.2, fun k hk => (okQ_iff Q).1 h.1.2 k hk⟩, by omega, by omega⟩
theorem anyBad_l0 (Q : List (List Int)) (hQ : Q.length ≤ 1000) : ∀ n k (i : Nat), i + n = Q.length → n + 41 ≤ k → anyBad.l0 k Q i = some (!((Q.drop i).all isShp))
  | 0, k, i, h, hk => by
    obtain ⟨k, rfl, _⟩ := succK (show 0 < k by omega)
    simp only [anyBad.l0]
    rw [if_neg (by omega), List.drop_eq_nil_of_le (by omega)]
    rfl
  | n + 1, k, i, h, hk => by
    obtain ⟨k, rfl, _⟩ := succK (show 0 < k by omega)
    have ih := anyBad_l0 Q hQ n k (i + 1) (by omega) (by omega)
    simp only [anyBad.l0]
    rw [if_pos (by omega), if_pos (by omega), rdLk Q i (by omega), bIs_f _ k (by omega), Option.bind_some, List.drop_eq_getElem_cons (show i < Q.length by omega), List.all_cons, inc64 i (by omega), ih]
    cases isShp Q[i] <;> rfl
/-- The beads that Of puts together fit. -/
theorem fit_of {T N : Nat} {c : List Int} {q : Nat → List Int} (h2 : 2 ≤ T) (h6 : T ≤ 6) (hc : Shp c) (hN : c.length ≤ N) (hN2 : N ≤ 160) (hq : ∀ k, k < T → Shp (q k)) (hm : ∀ k, k < T → (q k).length ≤ many T N c k) : Fit (ofB T N c q) := by
  have hB := ofB_of (show 0 < T by omega) N c (fun k hk => (hq k hk).dr)
  have hl := hB.length (by omega) hN hm
  have hlen : (ofB T N c q).length = N := by have := dsort_length (ofB T N c q); omega
  refine ⟨hB.db, by omega, fun x hx => ?_⟩
  have h0 := hB.db.nn x ((dsort_perm _).mem_iff.2 hx)
  refine ⟨h0, ?_⟩
  obtain ⟨L, hL, hxL⟩ := List.mem_flatten.1 hx
  obtain ⟨k, hk, rfl⟩ := List.mem_map.1 hL
  rw [List.mem_range'_1] at hk
  obtain ⟨y, hy, rfl⟩ := List.mem_map.1 hxL
  have hmk : many T N c k ≤ N := by
    have := run_length_le (T : Int) (k : Int) (pad N c)
    rw [pad_length hN] at this
    exact this
  have hy2 := pad_bnd (hq k (by omega)).dr (fun z hz => ((hq k (by omega)).bound z hz).2) (many T N c k) (hm k (by omega)) (by omega) y hy
  have := small_mul (a := y) (b := (T : Int)) (A := 1039) (B := 6) hy2 (by omega)
  show y * (T : Int) + k ≤ 1000000
  omega
theorem bOf_f (c : List Int) (Q : List (List Int)) (hQ : Q.length ≤ 1000) (k : Nat) (hk : 12000 ≤ k) : blocks_Of.f k c Q = if okO c Q = true then ofEnd (ofB Q.length (24 * Q.length) c (fun k => Q.getD k [])) else some ([], 2) := by
  obtain ⟨k, rfl⟩ : ∃ K, k = K + 1 := ⟨k - 1, by omega⟩
  have hbad : blocks_Of.j0 (k + 1) c Q Q.length true = some ([], 2) := by
    simp only [blocks_Of.j0]
    rw [if_pos trivial]
  have hf : slices_ContainsFunc_int_int.f (k + 1) Q = some (!okQ Q) := by
    unfold slices_ContainsFunc_int_int.f
    rw [if_pos (by omega)]
    exact anyBad_l0 Q hQ Q.length (k + 1) 0 (by omega) (by omega)
  unfold blocks_Of.f
  rw [show blocks_wired.f (k + 1) c Q.length = some (okW c Q.length) from wired_f c _ _ (by omega), Option.bind_some, hf, Option.bind_some]
  by_cases hw : okW c Q.length = true
  · obtain ⟨hs, h2, h6⟩ := okW_iff hw
    rw [if_pos hw]
    cases hq : okQ Q
    · rw [if_pos (by rfl), hbad, if_neg (by unfold okO; rw [hq]; simp)]
    · rw [if_neg (by simp), bstrips_f c hs Q.length (by omega) (by omega) (k + 1) (by omega), Option.bind_some]
      by_cases hz : (strp Q.length c).length = 0
      · have ho : okO c Q = true := by unfold okO; rw [hw, hq, decide_eq_true hz]; rfl
        have oo := okO_iff ho
        have hl := hs.len
        obtain ⟨T, hT⟩ : ∃ T, T = Q.length := ⟨_, rfl⟩
        rw [decide_eq_false (by omega), if_pos ho]
        simp only [blocks_Of.j0]
        rw [if_neg (by decide)]
        unfold slices_Clone_int_int.f
        rw [Option.bind_some, if_pos (by simp; omega), Option.bind_some, List.nil_append]
        have hN : c.length ≤ 24 * Q.length := by omega
        have hmod : (24 * Q.length) % Q.length = 0 := Nat.mul_mod_left _ _
        have hm : ∀ j, j < Q.length → (Q.getD j []).length ≤ many Q.length (24 * Q.length) c j := fun j hj => by
          have h12 := (oo.of.quo j hj).len
          have := many_ge (T := Q.length) (N := 24 * Q.length) oo.h2 oo.h6 hs.dr 12 hN hmod (by omega) hj
          exact Nat.le_trans h12 this
        have hfit := fit_of oo.h2 oo.h6 hs hN (by omega) oo.of.quo hm
        refine bOf_l0 Q Q.length oo.h2 oo.h6 _ (c ++ List.replicate (24 * Q.length - c.length) 0) (fun K hK => ?_) (24 * Q.length - c.length) k c (by omega) (by omega) rfl
        have hL : (c ++ List.replicate (24 * Q.length - c.length) 0).length = 24 * Q.length := by
          rw [List.length_append, List.length_replicate]
          omega
        have hce : ceil Q.length (24 * Q.length) = 24 * Q.length := by
          unfold ceil
          rw [hmod, Nat.sub_zero, Nat.mod_self, Nat.add_zero]
        have hpad : pad (24 * Q.length) (c ++ List.replicate (24 * Q.length - c.length) 0) = pad (24 * Q.length) c := by
          show bd ((c ++ List.replicate (24 * Q.length - c.length) 0) ++ List.replicate (24 * Q.length - (c ++ List.replicate (24 * Q.length - c.length) 0).length) 0) = _
          rw [hL, Nat.sub_self, List.replicate_zero, List.append_nil]
          rfl
        have hwr := wires_f (l := c ++ List.replicate (24 * Q.length - c.length) 0) (hs.dr.pad _) (fun x hx => by
          rcases List.mem_append.1 hx with h | h
          · exact (hs.bound x h).2
          · rw [List.eq_of_mem_replicate h]
            decide) (by rw [hL]; omega) oo.h2 oo.h6 K (by omega)
        rw [hL, hce, hpad] at hwr
        rw [hwr, Option.bind_some, wireS_length]
        refine bOf_l1 Q Q.length oo.h2 oo.h6 rfl (fun j hj x hx => by have := (oo.of.quo j hj).bound x hx; omega) _ (wireS_length _ _) (many Q.length (24 * Q.length) c) (fun j hj => ⟨?_, ?_, hm j hj⟩) _ hfit Q.length K 0 [] (by omega) (by omega) (by simp) (by rw [List.nil_append]; rfl)
        · rw [List.getD_eq_getElem?_getD, List.getElem?_eq_getElem (by rw [wireS_length]; exact hj), wireS_get]
          rfl
        · have := run_length_le (Q.length : Int) (j : Int) (pad (24 * Q.length) c)
          rw [pad_length hN] at this
          unfold many
          omega
      · rw [decide_eq_true (by omega), hbad, if_neg (by unfold okO; rw [decide_eq_false hz]; simp)]
  · rw [if_neg hw, hbad, if_neg (by unfold okO; rw [eq_false_of_ne_true hw]; simp)]
end Go.Proofs.Ytcmphfcpiciehaa.Pure
