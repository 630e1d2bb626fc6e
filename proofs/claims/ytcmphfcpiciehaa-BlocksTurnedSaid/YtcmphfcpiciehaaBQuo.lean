/- Quotients: the beads of each wire, in both packages. -/
import Derived.Test.YtcmphfcpiciehaaBRun
import Derived.Test.YtcmphfcpiciehaaPrintx3
import Derived.Test.YtcmphfcpiciehaaPrintx5
namespace Go.Proofs.Ytcmphfcpiciehaa.Pure
open Go.RowKit Go.Proofs.Ytcmphfcpiciehaa.Print Go.Proofs.YtcmphfcpiciehaaW.PrintWords Go.Proofs.YtcmphfcpiciehaaW.PrintLast Go.Proofs.YtcmphfcpiciehaaW.PrintMore
/-! ### many rows of no blocks -/
def ups : Nat → List Int → List Int
  | 0, b => b
  | n + 1, b => up (ups n b)
theorem pad_ups {N : Nat} {l : List Int} (h : l.length ≤ N) : ∀ m, pad (N + m) l = ups m (pad N l)
  | 0 => rfl
  | m + 1 => by rw [← Nat.add_assoc, pad_succ (by omega), pad_ups h m]; rfl
theorem ups_mem {b : List Int} : ∀ (n : Nat) (x : Int), x ∈ ups n b ↔ x - n ∈ b ∨ (0 ≤ x ∧ x < n)
  | 0, x => by
    show x ∈ b ↔ x - ((0 : Nat) : Int) ∈ b ∨ _
    rw [show x - ((0 : Nat) : Int) = x by omega]
    constructor
    · exact .inl
    · rintro (h | h)
      · exact h
      · omega
  | n + 1, x => by
    rw [show ups (n + 1) b = up (ups n b) from rfl, up_mem, ups_mem n (x - 1), show x - 1 - (n : Int) = x - ((n + 1 : Nat) : Int) by omega]
    constructor
    · rintro ((h | h) | h)
      · exact .inl h
      · exact .inr (by omega)
      · exact .inr (by omega)
    · rintro (h | h)
      · exact .inl (.inl h)
      · by_cases h0 : x = 0
        · exact .inr h0
        · exact .inl (.inr (by omega))
theorem ups_db {b : List Int} (h : DB b) : ∀ n, DB (ups n b)
  | 0 => h
  | n + 1 => up_db (ups_db h n)
theorem rows_up : ∀ b : List Int, rows (up b) = rows b ++ [0]
  | [] => rfl
  | x :: xs => by
    have ih := rows_up xs
    unfold up at ih ⊢
    rw [List.map_cons, List.cons_append, rows, ih, rows, List.cons_append, List.length_append, List.length_map, List.length_singleton]
    congr 1
    omega
theorem shB_up (b : List Int) : shB (up b) = shB b := by
  unfold shB
  rw [rows_up, List.filter_append]
  simp
theorem shB_ups (b : List Int) : ∀ n, shB (ups n b) = shB b
  | 0 => rfl
  | n + 1 => by rw [show ups (n + 1) b = up (ups n b) from rfl, shB_up, shB_ups b n]
theorem ups_length (b : List Int) : ∀ n, (ups n b).length = b.length + n
  | 0 => rfl
  | n + 1 => by
    rw [show ups (n + 1) b = up (ups n b) from rfl]
    unfold up
    rw [List.length_append, List.length_map, ups_length b n]
    rfl
theorem run_ups {T : Nat} {k : Int} {b : List Int} (ht : 0 < T) (h0 : 0 ≤ k) (hk : k < T) (hb : DB b) : run T k (ups T b) = up (run T k b) :=
  DB.ext (run_db (by omega) (ups_db hb T)) (up_db (run_db (by omega) hb)) fun y => by
    rw [run_mem (by omega) h0 hk, ups_mem, up_mem, run_mem (by omega) h0 hk, show (y - 1) * (T : Int) + k = y * T + k - T by rw [Int.sub_mul, Int.one_mul]; omega]
    constructor
    · rintro (h | ⟨h1, h2⟩)
      · exact .inl h
      · refine .inr ?_
        rcases Int.lt_or_le y 0 with h | h
        · have := Int.mul_le_mul_of_nonneg_right (show y ≤ -1 by omega) (show 0 ≤ (T : Int) by omega)
          omega
        · rcases Int.lt_or_le y 1 with h3 | h3
          · omega
          · have := Int.mul_le_mul_of_nonneg_right h3 (show 0 ≤ (T : Int) by omega)
            omega
    · rintro (h | h)
      · exact .inl h
      · subst h
        exact .inr (by omega)
theorem run_pad {T : Nat} {k : Int} {l : List Int} (ht : 0 < T) (h0 : 0 ≤ k) (hk : k < T) (hl : DR l) {N : Nat} (hN : l.length ≤ N) : run T k (pad (N + T) l) = up (run T k (pad N l)) := by
  rw [pad_ups hN, run_ups ht h0 hk (pad_db hl N)]
theorem run_pads {T : Nat} {k : Int} {l : List Int} (ht : 0 < T) (h0 : 0 ≤ k) (hk : k < T) (hl : DR l) {N : Nat} (hN : l.length ≤ N) : ∀ m, run T k (pad (N + m * T) l) = ups m (run T k (pad N l))
  | 0 => by rw [Nat.zero_mul]; rfl
  | m + 1 => by
    rw [Nat.succ_mul, ← Nat.add_assoc, run_pad ht h0 hk hl (by omega), run_pads ht h0 hk hl hN m]
    rfl
/-! ### a number of rows that T divides -/
def ceil (T n : Nat) : Nat := n + (T - n % T) % T
structure CeilOf (T n d : Nat) : Prop where
  eq : ceil T n = n + d
  dv : (n + d) % T = 0
  lt : d < T
  min : ∀ e, e < d → (n + e) % T ≠ 0
theorem ceil_of {T n : Nat} (h2 : 2 ≤ T) (h6 : T ≤ 6) : CeilOf T n ((T - n % T) % T) := by
  have : T = 2 ∨ T = 3 ∨ T = 4 ∨ T = 5 ∨ T = 6 := by omega
  rcases this with rfl | rfl | rfl | rfl | rfl <;> exact ⟨rfl, by omega, by omega, fun e he => by omega⟩
theorem ceil_eq {T n N : Nat} (h2 : 2 ≤ T) (h6 : T ≤ 6) (h : N % T = 0) (hn : n ≤ N) : ∃ m, N = ceil T n + m * T := by
  refine ⟨(N - ceil T n) / T, ?_⟩
  unfold ceil
  have : T = 2 ∨ T = 3 ∨ T = 4 ∨ T = 5 ∨ T = 6 := by omega
  rcases this with rfl | rfl | rfl | rfl | rfl <;> omega
theorem replicate_snoc (l : List Int) (d : Nat) : (l ++ [0]) ++ List.replicate d 0 = l ++ List.replicate (d + 1) 0 := by
  rw [List.append_assoc, List.replicate_succ]
  rfl
theorem W_l0 (T : Nat) (ht : 0 < T) (h6 : T ≤ 6) : ∀ d K (l : List Int), l.length + d ≤ 1000 → (l.length + d) % T = 0 → (∀ e, e < d → (l.length + e) % T ≠ 0) → blocks_wires.l0 (K + d + 1) l T = (blocks_beads.f K (l ++ List.replicate d 0)).bind fun b => blocks_wires.l1 K T (List.replicate T []) b b.length 0
  | 0, K, l, h, hd, hm => by
    simp only [blocks_wires.l0]
    have e : (l.length : Int) % (T : Int) = 0 := by
      rw [← Int.natCast_emod]
      rw [Nat.add_zero] at hd
      rw [hd]
      rfl
    rw [if_neg (by omega), if_pos e, if_pos (by omega), if_pos (by omega), List.replicate_zero, List.append_nil, Int.toNat_natCast]
  | d + 1, K, l, h, hd, hm => by
    have ih := W_l0 T ht h6 d K (l ++ [0]) (by simp; omega) (by rw [List.length_append, List.length_singleton, Nat.add_assoc, Nat.add_comm 1 d]; exact hd) (fun e he => by
      have := hm (e + 1) (by omega)
      rwa [List.length_append, List.length_singleton, Nat.add_assoc, Nat.add_comm 1 e])
    have h0 := hm 0 (by omega)
    rw [Nat.add_zero] at h0
    have e : ¬ (l.length : Int) % (T : Int) = 0 := by
      rw [← Int.natCast_emod]
      omega
    obtain ⟨F, hF⟩ : ∃ F, F = K + d + 1 := ⟨_, rfl⟩
    rw [← hF] at ih
    rw [show K + (d + 1) + 1 = F + 1 by rw [hF]; rfl]
    simp only [blocks_wires.l0]
    rw [if_neg (by omega), if_neg e, if_pos (by omega), ih, replicate_snoc]
def wireS (T : Nat) (b : List Int) : List (List Int) := (List.range' 0 T).map fun (k : Nat) => run T (k : Int) b
theorem wireS_length (T : Nat) (b : List Int) : (wireS T b).length = T := by simp [wireS]
theorem wireS_get (T : Nat) (b : List Int) (k : Nat) (h : k < (wireS T b).length) : (wireS T b)[k] = run T (k : Int) b := by simp [wireS]
theorem run_snoc (t k : Int) (b : List Int) (x : Int) : run t k (b ++ [x]) = run t k b ++ if x % t = k then [x / t] else [] := by
  unfold run
  rw [List.filter_append, List.map_append]
  congr 1
  by_cases h : x % t = k
  · rw [if_pos h, List.filter_cons, if_pos (decide_eq_true h)]
    rfl
  · rw [if_neg h, List.filter_cons, if_neg (by rw [decide_eq_true_eq]; exact h)]
    rfl
theorem take_snoc {b : List Int} {i : Nat} (h : i < b.length) : b.take (i + 1) = b.take i ++ [b.getD i 0] := by
  rw [List.take_succ_eq_append_getElem h, getD_at h]
theorem wireS_set (T : Nat) (b : List Int) (x : Int) (r : Nat) (hx : x % (T : Int) = (r : Int)) : (wireS T b).set r (run T r b ++ [x / T]) = wireS T (b ++ [x]) := by
  refine List.ext_getElem (by rw [List.length_set, wireS_length, wireS_length]) fun j h1 h2 => ?_
  rw [List.getElem_set, wireS_get, wireS_get, run_snoc, hx]
  by_cases e : r = j
  · rw [if_pos e, if_pos (by omega), e]
  · rw [if_neg e, if_neg (by omega), List.append_nil]
theorem run_length_le (t k : Int) (b : List Int) : (run t k b).length ≤ b.length := by
  unfold run
  rw [List.length_map]
  exact List.length_filter_le _ _
theorem rdLk (a : List (List Int)) (i : Nat) (h : i < a.length) : rd_L1 a (i : Int) = a[i] := by
  unfold rd_L1
  rw [Int.toNat_natCast, List.getD_eq_getElem?_getD, List.getElem?_eq_getElem h]
  rfl
theorem W_l1 (T : Nat) (ht : 0 < T) (h6 : T ≤ 6) (b : List Int) (hl : b.length ≤ 1000) (hb : ∀ x ∈ b, 0 ≤ x ∧ x ≤ 1000000) : ∀ n k (i : Nat), i + n = b.length → n < k → blocks_wires.l1 k T (wireS T (b.take i)) b b.length i = some (wireS T b)
  | 0, k, i, h, hk => by
    obtain ⟨k, rfl, _⟩ := succK hk
    simp only [blocks_wires.l1]
    rw [if_neg (by omega), List.take_of_length_le (by omega)]
  | n + 1, k, i, h, hk => by
    obtain ⟨k, rfl, _⟩ := succK hk
    have hi : i < b.length := by omega
    have hx := hb _ (getD_mem hi)
    have ih := W_l1 T ht h6 b hl hb n k (i + 1) (by omega) (by omega)
    have h0 := Int.emod_nonneg (b.getD i 0) (show (T : Int) ≠ 0 by omega)
    have h1 := Int.emod_lt_of_pos (b.getD i 0) (show 0 < (T : Int) by omega)
    obtain ⟨r, hr⟩ : ∃ r : Nat, b.getD i 0 % (T : Int) = (r : Int) := ⟨(b.getD i 0 % (T : Int)).toNat, by omega⟩
    have hq : Int.tdiv (b.getD i 0) T = b.getD i 0 / T := Int.tdiv_eq_ediv_of_nonneg hx.1
    have hq0 : 0 ≤ b.getD i 0 / (T : Int) := Int.ediv_nonneg hx.1 (by omega)
    have hq1 : b.getD i 0 / (T : Int) ≤ b.getD i 0 := Int.ediv_le_self _ hx.1
    have hw := wireS_length T (b.take i)
    have hrl := run_length_le T r (b.take i)
    rw [List.length_take] at hrl
    simp only [blocks_wires.l1]
    rw [if_pos (by omega), if_pos (by omega), if_pos (by omega), if_neg (by omega), rdn, Int.tmod_eq_emod_of_nonneg hx.1, hr, if_pos (by omega), if_pos (by omega), rdLk _ r (by omega), wireS_get, if_pos (by omega), Int.toNat_natCast, hq, w64 (by omega) (by omega), wireS_set T _ _ r hr, inc64 i (by omega), ← take_snoc hi]
    exact ih
theorem wireS_nil (T : Nat) : List.replicate T ([] : List Int) = wireS T [] := by
  refine List.ext_getElem (by rw [List.length_replicate, wireS_length]) fun j h1 h2 => ?_
  rw [List.getElem_replicate, wireS_get]
  rfl
theorem pad_bnd {l : List Int} (hd : DR l) (hb : ∀ x ∈ l, x ≤ 40) (N : Nat) (hN : l.length ≤ N) (hN2 : N ≤ 1000) : ∀ x ∈ pad N l, 0 ≤ x ∧ x ≤ 1039 := fun x hx => by
  refine ⟨(pad_db hd N).nn x hx, ?_⟩
  have := bd_le (l ++ List.replicate (N - l.length) 0) 40 (fun y hy => by
    rcases List.mem_append.1 hy with h | h
    · exact hb y h
    · rw [List.eq_of_mem_replicate h]
      omega) x hx
  rw [List.length_append, List.length_replicate] at this
  omega
theorem wires_f {l : List Int} (hd : DR l) (hb : ∀ x ∈ l, x ≤ 40) (hl : l.length ≤ 900) {T : Nat} (h2 : 2 ≤ T) (h6 : T ≤ 6) (k : Nat) (hk : 1100 ≤ k) : blocks_wires.f k l T = some (wireS T (pad (ceil T l.length) l)) := by
  have hc := ceil_of (n := l.length) h2 h6
  have hlt := hc.lt
  obtain ⟨K, rfl⟩ : ∃ K, k = K + (T - l.length % T) % T + 1 := ⟨k - (T - l.length % T) % T - 1, by omega⟩
  have h0 := W_l0 T (by omega) h6 ((T - l.length % T) % T) K l (by omega) hc.dv hc.min
  have hp : bd (l ++ List.replicate ((T - l.length % T) % T) 0) = pad (ceil T l.length) l := by
    unfold pad
    rw [hc.eq, Nat.add_sub_cancel_left]
  have hpl : (pad (ceil T l.length) l).length ≤ 1000 := by
    rw [pad_length (by rw [hc.eq]; omega), hc.eq]
    omega
  have h1 := W_l1 T (by omega) h6 (pad (ceil T l.length) l) hpl (fun x hx => by have := pad_bnd hd hb (ceil T l.length) (by rw [hc.eq]; omega) (by rw [hc.eq]; omega) x hx; omega) _ K 0 (Nat.zero_add _) (by omega)
  rw [beads_f _ (by rw [List.length_append, List.length_replicate]; omega) (fun x hx => by
    rcases List.mem_append.1 hx with h | h
    · have := hd.nn x h
      have := hb x h
      omega
    · rw [List.eq_of_mem_replicate h]
      omega) K (by rw [List.length_append, List.length_replicate]; omega), Option.bind_some, hp, wireS_nil] at h0
  unfold blocks_wires.f slices_Clone_int_int.f
  rw [Option.bind_some, if_pos (by simp; omega), Option.bind_some, List.nil_append, h0]
  exact h1
/-! ### Quotient -/
def quo (T : Nat) (l : List Int) : List (List Int) := (wireS T (pad (ceil T l.length) l)).map shB
theorem quo_length (T : Nat) (l : List Int) : (quo T l).length = T := by rw [quo, List.length_map, wireS_length]
theorem Q_l0 (L : List (List Int)) (hL : L.length ≤ 100) (hb : ∀ x ∈ L, DB x ∧ x.length ≤ 1000 ∧ ∀ y ∈ x, y ≤ 1000000) : ∀ n k (i : Nat), i + n = L.length → n + 1002 ≤ k → blocks_Quotient.l0 k ((L.take i).map shB ++ L.drop i) L.length i = some (L.map shB, 0)
  | 0, k, i, h, hk => by
    obtain ⟨k, rfl, _⟩ := succK (show 0 < k by omega)
    simp only [blocks_Quotient.l0]
    rw [if_neg (by omega), List.take_of_length_le (by omega), List.drop_eq_nil_of_le (by omega), List.append_nil]
  | n + 1, k, i, h, hk => by
    obtain ⟨k, rfl, _⟩ := succK (show 0 < k by omega)
    have hi : i < L.length := by omega
    have ih := Q_l0 L hL hb n k (i + 1) (by omega) (by omega)
    obtain ⟨b1, b2, b3⟩ := hb _ (List.getElem_mem hi)
    have hlen : ((L.take i).map shB).length = i := by rw [List.length_map, List.length_take]; omega
    have hlen2 : ((L.take i).map shB ++ L.drop i).length = L.length := by rw [List.length_append, hlen, List.length_drop]; omega
    have hget : ((L.take i).map shB ++ L.drop i)[i]'(by omega) = L[i] := by
      rw [List.getElem_append_right (by omega), List.getElem_drop]
      congr 1
      omega
    have hset : ((L.take i).map shB ++ L.drop i).set i (shB L[i]) = (L.take (i + 1)).map shB ++ L.drop (i + 1) := by
      rw [List.set_append_right _ _ (by omega), hlen, Nat.sub_self, List.drop_eq_getElem_cons hi, List.set_cons_zero, List.take_succ_eq_append_getElem hi, List.map_append, List.append_assoc]
      rfl
    simp only [blocks_Quotient.l0]
    rw [if_pos (by omega), if_pos (by omega), if_pos (by omega), rdLk _ i (by omega), hget, of_db _ (by rw [b1.dsort]; exact b1) (by omega) (fun x hx => by have := b1.nn x hx; have := b3 x hx; omega) k (by omega), Option.bind_some, b1.dsort, Int.toNat_natCast, hset, inc64 i (by omega)]
    exact ih
theorem wireS_ok {l : List Int} (hs : Shp l) {T : Nat} (h2 : 2 ≤ T) (N : Nat) (hN : l.length ≤ N) (hN2 : N ≤ 900) : ∀ x ∈ wireS T (pad N l), DB x ∧ x.length ≤ 1000 ∧ ∀ y ∈ x, y ≤ 1000000 := fun x hx => by
  obtain ⟨k, hk, rfl⟩ := List.mem_map.1 hx
  have h1 := run_length_le T k (pad N l)
  rw [pad_length hN] at h1
  refine ⟨run_db (by omega) (pad_db hs.dr N), by omega, fun y hy => ?_⟩
  obtain ⟨z, hz, rfl⟩ := List.mem_map.1 hy
  have h3 := pad_bnd hs.dr (fun x hx => (hs.bound x hx).2) N hN (by omega) z (List.mem_filter.1 hz).1
  have := Int.ediv_le_self (T : Int) h3.1
  show z / (T : Int) ≤ 1000000
  omega
theorem ceil_le {T n : Nat} (h2 : 2 ≤ T) (h6 : T ≤ 6) : n ≤ ceil T n ∧ ceil T n < n + 6 := by
  have := (ceil_of (n := n) h2 h6)
  have h1 := this.eq
  have h2 := this.lt
  omega
theorem bQuotient_f (l : List Int) (T : Nat) (k : Nat) (hk : 1200 ≤ k) : blocks_Quotient.f k l T = if okW l T = true then some (quo T l, 0) else some ([], 2) := by
  unfold blocks_Quotient.f
  rw [ownW l T k (by omega)]
  by_cases h : okW l T = true
  · obtain ⟨hs, h2, h6⟩ := okW_iff h
    have hl := hs.len
    have hc := ceil_le (n := l.length) (show 2 ≤ T by omega) (by omega)
    have h0 := Q_l0 (wireS T (pad (ceil T l.length) l)) (by rw [wireS_length]; omega) (wireS_ok hs (by omega) _ hc.1 (by omega)) _ k 0 (Nat.zero_add _) (by rw [wireS_length]; omega)
    rw [if_pos h, if_pos h, wires_f hs.dr (fun x hx => (hs.bound x hx).2) (by omega) (by omega) (by omega) k (by omega), Option.bind_some]
    exact h0
  · rw [if_neg h, if_neg h]
/-- The quotient at any number of rows that T divides. -/
theorem quo_at {l : List Int} (hs : Shp l) {T : Nat} (h2 : 2 ≤ T) (h6 : T ≤ 6) {N : Nat} (hN : l.length ≤ N) (hT : N % T = 0) : quo T l = (wireS T (pad N l)).map shB := by
  obtain ⟨m, e⟩ := ceil_eq (n := l.length) h2 h6 hT hN
  unfold quo wireS
  rw [List.map_map, List.map_map]
  refine List.map_congr_left fun k hk => ?_
  rw [List.mem_range'_1] at hk
  show shB (run T k (pad (ceil T l.length) l)) = shB (run T k (pad N l))
  rw [e, run_pads (by omega) (by omega) (by omega) hs.dr (ceil_le h2 h6).1, shB_ups]
end Go.Proofs.Ytcmphfcpiciehaa.Pure
