/- BlocksStairs: the cores for two wires are the stairs; each of Cores is a core with so many blocks. -/
import Derived.Test.YtcmphfcpiciehaaBSta
import Derived.Test.YtcmphfcpiciehaaBRun
import Derived.Test.YtcmphfcpiciehaaBBaseR
import Derived.Test.YtcmphfcpiciehaaPrintx37
namespace Go.Proofs.Ytcmphfcpiciehaa.Pure
open Go.RowKit Go.Proofs.Ytcmphfcpiciehaa.Print Go.Proofs.YtcmphfcpiciehaaW.PrintWords Go.Proofs.YtcmphfcpiciehaaW.PrintLast Go.Proofs.YtcmphfcpiciehaaW.PrintMore
theorem same_dec_l0 (a b : List Int) (ha : a.length ≤ 1000) (hab : a.length = b.length) : ∀ m k (i : Nat), i + m = a.length → m < k → clochelaw04_same.l0 k a b (i : Int) = some (decide (a.drop i = b.drop i))
  | 0, k, i, hi, hk => by
    obtain ⟨k, rfl, _⟩ := succK (show 0 < k by omega)
    rw [clochelaw04_same.l0, if_neg (by omega), List.drop_eq_nil_of_le (by omega), List.drop_eq_nil_of_le (by omega), decide_eq_true rfl]
  | m + 1, k, i, hi, hk => by
    obtain ⟨k, rfl, _⟩ := succK (show 0 < k by omega)
    rw [clochelaw04_same.l0, if_pos (by omega), if_pos (by omega), if_pos (by omega), rdn, rdn, inc64 i (by omega), drop_getD (show i < a.length by omega), drop_getD (show i < b.length by omega)]
    by_cases c : a.getD i 0 = b.getD i 0
    · rw [if_pos c, same_dec_l0 a b ha hab m k (i + 1) (by omega) (by omega)]
      congr 1
      rw [c]
      simp
    · rw [if_neg c]
      congr 1
      symm
      refine decide_eq_false fun h => c ?_
      injection h
theorem same_ne {a b : List Int} (ha : a.length ≤ 1000) (h : a ≠ b) (k : Nat) (hk : 1001 ≤ k) : clochelaw04_same.f k a b = some false := by
  unfold clochelaw04_same.f
  by_cases c : a.length = b.length
  · rw [if_pos (by omega)]
    have := same_dec_l0 a b ha c a.length k 0 (by omega) (by omega)
    rw [List.drop_zero, List.drop_zero, decide_eq_false h] at this
    exact this
  · rw [if_neg (by omega)]
/-- every shape begins with L. -/
theorem gO_pre (lim : Bool) : ∀ d L left most l, l ∈ gO lim d L left most → L <+: l
  | 0, _, _, _, _, h => by cases h
  | d + 1, L, left, most, l, h => by
    simp only [gO] at h
    by_cases h0 : left = 0
    · rw [if_pos h0, List.mem_singleton] at h
      subst h
      exact List.prefix_refl _
    · rw [if_neg h0] at h
      obtain ⟨y, _, _, h3⟩ := gL_mem _ _ h
      exact (List.prefix_append L [(y : Int)]).trans (gO_pre lim d _ _ _ l h3)
theorem pre_eq {L l : List Int} {x y : Int} (h1 : L ++ [x] <+: l) (h2 : L ++ [y] <+: l) : x = y := by
  have e : L ++ [x] = L ++ [y] := by
    have p1 := List.prefix_iff_eq_take.1 h1
    have p2 := List.prefix_iff_eq_take.1 h2
    rw [p1, p2]
    simp
  simpa using e
theorem gL_nodup {lim : Bool} {d : Nat} {L : List Int} {left : Nat} (ih : ∀ L' left' most', (gO lim d L' left' most').Nodup) : ∀ m x, (gL (gO lim d) lim L left x m).Nodup
  | 0, _ => List.nodup_nil
  | m + 1, x => by
    simp only [gL]
    refine List.nodup_append.2 ⟨?_, gL_nodup ih m (x + 1), fun a ha b hb e => ?_⟩
    · split
      · exact List.nodup_nil
      · exact ih _ _ _
    · split at ha
      · cases ha
      · obtain ⟨y, h1, _, h3⟩ := gL_mem _ _ hb
        have p1 := gO_pre lim d _ _ _ a ha
        have p2 := gO_pre lim d _ _ _ b h3
        rw [← e] at p2
        have := pre_eq p1 p2
        omega
theorem gO_nodup (lim : Bool) : ∀ d L left most, (gO lim d L left most).Nodup
  | 0, _, _, _ => List.nodup_nil
  | d + 1, L, left, most => by
    simp only [gO]
    by_cases h0 : left = 0
    · rw [if_pos h0]; exact List.nodup_cons.2 ⟨List.not_mem_nil, List.nodup_nil⟩
    · rw [if_neg h0]
      exact gL_nodup (fun L' left' most' => gO_nodup lim d L' left' most') _ _
theorem cores_nodup (t : Int) (n : Nat) : (coresL t n).Nodup := (gO_nodup true _ _ _ _).filter _
theorem cores_shp {t : Int} {n : Nat} (hn : n ≤ 20) {l : List Int} (h : l ∈ coresL t n) : Shp l ∧ l.sum = n ∧ (strp t l).length = 0 := by
  obtain ⟨h1, h2⟩ := List.mem_filter.1 h
  obtain ⟨q1, q2, q3, _⟩ := gO_mem true _ _ _ _ l h1 (sh_nil n)
  rw [List.sum_nil] at q3
  rw [gO_lim _ _ _ _ (by simp) (sh_nil n)] at h1
  have h3 := of_decide_eq_true (List.mem_filter.1 h1).2
  exact ⟨shp_of h3 ⟨q1, fun y hy => by have := q2 y hy; omega⟩ q2 (by omega), by omega, of_decide_eq_true h2⟩
theorem rdLs (a : List (List Int)) {i : Nat} (h : i < a.length) : rd_L1 a (i : Int) = a[i] := by
  unfold rd_L1
  rw [Int.toNat_natCast, List.getD_eq_getElem?_getD, List.getElem?_eq_getElem h]
  rfl
theorem sta_l2 {t : Int} (ht : 2 ≤ t) (ht6 : t ≤ 6) {n : Nat} (hn : n ≤ 20) (hlen : (coresL t n).length ≤ 2000000) : ∀ m (i k : Nat), i + m = (coresL t n).length → 2000 + m + 1 ≤ k → clochelaw04_BlocksStairs.l2 k (n : Int) t (coresL t n) (i : Int) = some true
  | 0, i, k, hi, hk => by
    obtain ⟨k, rfl, _⟩ := succK (show 0 < k by omega)
    rw [clochelaw04_BlocksStairs.l2, if_neg (by omega), alive k (by omega), Option.bind_some]
  | m + 1, i, k, hi, hk => by
    obtain ⟨k, rfl, _⟩ := succK (show 0 < k by omega)
    have hil : i < (coresL t n).length := by omega
    have hm := List.getElem_mem hil
    obtain ⟨h1, h2, h3⟩ := cores_shp hn hm
    have hrec := sta_l2 ht ht6 hn hlen m (i + 1) k (by omega) (by omega)
    rw [clochelaw04_BlocksStairs.l2, if_pos (by omega), if_pos (by omega), rdLs _ hil, bIsCore_f _ t k (by omega), if_pos (okW_of h1 ht ht6), Option.bind_some, if_pos rfl, h3, if_pos (by decide), rSum_f _ h1 k (by omega), Option.bind_some, if_pos h2, inc64 i (by omega)]
    by_cases c : i = 0
    · rw [if_neg (by omega), hrec]
    · have hi1 : i - 1 < (coresL t n).length := by omega
      have e : wrap64 ((i : Int) - 1) = ((i - 1 : Nat) : Int) := by rw [w64 (by omega) (by omega)]; omega
      have hne : (coresL t n)[i] ≠ (coresL t n)[i - 1] := fun h => List.pairwise_iff_getElem.1 (cores_nodup t n) (i - 1) i hi1 hil (by omega) h.symm
      have hl := h1.len
      rw [if_pos (by omega), e, if_pos (by omega), if_pos (by omega), rdLs _ hi1, same_ne (by omega) hne k (by omega), Option.bind_some, if_neg (by decide), hrec]
theorem sta_j3 {t : Int} (ht : 2 ≤ t) (ht6 : t ≤ 6) {n : Nat} (hn : n ≤ 20) (k : Nat) (hk : 2100000 ≤ k) : clochelaw04_BlocksStairs.j3 k (n : Int) t = some true := by
  obtain ⟨k, rfl, _⟩ := succK (show 0 < k by omega)
  have hlen : (coresL t n).length ≤ 2000000 := by
    have hp : 2 ^ n ≤ 2 ^ 20 := Nat.pow_le_pow_right (by decide) hn
    have hp2 : (2 : Nat) ^ 20 = 1048576 := by decide
    exact Nat.le_trans (List.length_filter_le _ _) (Nat.le_trans (gO_len true (n + 1) [] n n) (by omega))
  have hV : coresV (n : Int) t = (coresL t n, 0) := by
    unfold coresV
    rw [decide_eq_true (show (0 : Int) ≤ n by omega), decide_eq_true (show (n : Int) ≤ 20 by omega), decide_eq_true ht, decide_eq_true ht6, if_pos (by decide), Int.toNat_natCast]
  rw [clochelaw04_BlocksStairs.j3, bCores_f _ _ k (by omega), Option.bind_some, hV, if_pos rfl]
  exact sta_l2 ht ht6 hn hlen (coresL t n).length 0 k (by omega) (by omega)
theorem stair_len (k : Nat) : (stair k).length = k := by simp [stair]
theorem stair_get {k i : Nat} (h : i < k) : rd (stair k) (i : Int) = ((k - i : Nat) : Int) := by
  rw [rdn]
  unfold stair
  rw [List.getD_eq_getElem?_getD, List.getElem?_map, List.getElem?_range h]
  rfl
theorem sta_l1 {t : Int} (ht : 2 ≤ t) (ht6 : t ≤ 6) {n : Nat} (hn : n ≤ 20) {q : Nat} (hq : q ≤ 6) : ∀ m (i k : Nat), i + m = q → 2100000 + m + 1 ≤ k → clochelaw04_BlocksStairs.l1 k (n : Int) t [stair q] (q : Int) (i : Int) = some true
  | 0, i, k, hi, hk => by
    obtain ⟨k, rfl, _⟩ := succK (show 0 < k by omega)
    rw [clochelaw04_BlocksStairs.l1, if_neg (by omega)]
    exact sta_j3 ht ht6 hn k (by omega)
  | m + 1, i, k, hi, hk => by
    obtain ⟨k, rfl, _⟩ := succK (show 0 < k by omega)
    have e0 : rd_L1 [stair q] 0 = stair q := rfl
    have hl := stair_len q
    rw [clochelaw04_BlocksStairs.l1, if_pos (by omega), if_pos (by simp), if_pos (by omega), e0, if_pos (by omega), stair_get (show i < q by omega), w64 (by omega) (by omega), if_pos (by omega), inc64 i (by omega)]
    exact sta_l1 ht ht6 hn hq m (i + 1) k (by omega) (by omega)
theorem halfAll : ((List.range 7).all fun j => wrap64 (Int.tdiv (wrap64 ((j : Int) * (wrap64 ((j : Int) + 1)))) 2) == ((j * (j + 1) / 2 : Nat) : Int)) = true := by decide +kernel
theorem half_j {j : Nat} (h : j ≤ 6) : wrap64 (Int.tdiv (wrap64 ((j : Int) * (wrap64 ((j : Int) + 1)))) 2) = ((j * (j + 1) / 2 : Nat) : Int) := by
  have := List.all_eq_true.1 halfAll j (List.mem_range.2 (by omega))
  simpa using this
theorem sta_l0 {t : Int} (ht : 2 ≤ t) (ht6 : t ≤ 6) {n : Nat} (hn : n ≤ 20) : ∀ m (j k : Nat), j + m = kq n → 2100200 + m ≤ k → clochelaw04_BlocksStairs.l0 k (n : Int) t (coresL 2 n) 0 (j : Int) = some true := by
  have hq := List.all_eq_true.1 kqAll n (List.mem_range.2 (by omega))
  simp only [Bool.and_eq_true, decide_eq_true_eq, List.all_eq_true, List.mem_range] at hq
  obtain ⟨⟨q1, q2⟩, q3⟩ := hq
  have hs := of_decide_eq_true (List.all_eq_true.1 stairsAll n (List.mem_range.2 (by omega)))
  intro m
  induction m with
  | zero =>
    intro j k hj hk
    obtain ⟨k, rfl, _⟩ := succK (show 0 < k by omega)
    obtain rfl : j = kq n := by omega
    rw [clochelaw04_BlocksStairs.l0, half_j q1, if_neg (by omega), if_pos rfl, hs]
    by_cases c : kq n * (kq n + 1) / 2 = n
    · obtain ⟨k, rfl, _⟩ := succK (show 0 < k by omega)
      have hl := stair_len (kq n)
      have e : ((((stair (kq n)).length : Nat) : Int) != ((kq n : Nat) : Int)) = false := by rw [hl]; simp
      rw [if_pos (by omega), if_pos c, if_pos (by rfl), if_pos (by simp)]
      show clochelaw04_BlocksStairs.j1 (k + 1) (n : Int) t [stair (kq n)] ((kq n : Nat) : Int) ((((stair (kq n)).length : Nat) : Int) != ((kq n : Nat) : Int)) = _
      rw [e, clochelaw04_BlocksStairs.j1, if_neg (by decide)]
      exact sta_l1 ht ht6 hn q1 (kq n) 0 k (by omega) (by omega)
    · rw [if_neg (by omega), if_neg c, if_pos (by rfl)]
      exact sta_j3 ht ht6 hn k (by omega)
  | succ m ih =>
    intro j k hj hk
    obtain ⟨k, rfl, _⟩ := succK (show 0 < k by omega)
    have := q3 j (by omega)
    rw [clochelaw04_BlocksStairs.l0, half_j (by omega), if_pos (by omega), inc64 j (by omega)]
    exact ih (j + 1) k (by omega) (by omega)
theorem BlocksStairs : clochelaw04_BlocksStairs.Pure := by
  intro a0 a1 ha0 ha1
  have hab : 0 ≤ a0 ∧ a0 ≤ 255 := by
    simp [Lit.wf, IntKind.min, IntKind.max, IntKind.signed, IntKind.bits] at ha0
    omega
  obtain ⟨t, hw, h2, h6⟩ := wires_of a1 ha1
  obtain ⟨k, hk⟩ : ∃ k, k = 3000000 := ⟨_, rfl⟩
  refine ⟨k, ?_⟩
  obtain ⟨n, hn, e⟩ : ∃ n : Nat, n ≤ 20 ∧ Int.tmod (wrap64 a0) 21 = (n : Int) := by
    obtain ⟨m, rfl⟩ : ∃ m : Nat, a0 = m := ⟨a0.toNat, by omega⟩
    refine ⟨m % 21, by omega, ?_⟩
    rw [w64 (by omega) (by omega)]
    exact (Int.ofNat_tmod m 21).symm
  have hV : coresV (n : Int) 2 = (coresL 2 n, 0) := by
    unfold coresV
    rw [decide_eq_true (show (0 : Int) ≤ n by omega), decide_eq_true (show (n : Int) ≤ 20 by omega), if_pos (by decide), Int.toNat_natCast]
  unfold clochelaw04_BlocksStairs.f
  rw [hw, Option.bind_some, e, bCores_f _ _ k (by omega), Option.bind_some, hV]
  have hq := List.all_eq_true.1 kqAll n (List.mem_range.2 (by omega))
  simp only [Bool.and_eq_true, decide_eq_true_eq] at hq
  exact sta_l0 h2 h6 hn (kq n) 0 k (by omega) (by have := hq.1.1; omega)
end Go.Proofs.Ytcmphfcpiciehaa.Pure
