/- Ways: the hooks divided out one by one, and all at once. -/
import Derived.Test.YtcmphfcpiciehaaBBase
import Derived.Test.YtcmphfcpiciehaaPrintx11
namespace Go.Proofs.Ytcmphfcpiciehaa.Pure
open Go.RowKit Go.Proofs.Ytcmphfcpiciehaa.Print Go.Proofs.YtcmphfcpiciehaaW.PrintWords Go.Proofs.YtcmphfcpiciehaaW.PrintLast Go.Proofs.YtcmphfcpiciehaaW.PrintMore
/-! ### all shapes of n blocks -/
def partsI : Nat → Nat → Nat → List (List Int)
  | 0, _, n => if n = 0 then [[]] else []
  | r + 1, m, n => if n = 0 then [[]] else (List.range (min m n)).flatMap fun x => (partsI r (x + 1) (n - (x + 1))).map (((x + 1 : Nat) : Int) :: ·)
theorem sum_nonneg' : ∀ l : List Int, (∀ y ∈ l, 1 ≤ y) → 0 ≤ l.sum
  | [], _ => by simp
  | a :: l, h => by
    have h1 := h a List.mem_cons_self
    have h2 := sum_nonneg' l (fun y hy => h y (List.mem_cons_of_mem _ hy))
    rw [List.sum_cons]
    omega
theorem mem_parts : ∀ (l : List Int) (r m n : Nat), l.length ≤ r → (∀ x ∈ l, 1 ≤ x ∧ x ≤ m) → l.Pairwise (fun a b => b ≤ a) → l.sum = n → l ∈ partsI r m n
  | [], r, m, n, _, _, _, hs => by
    have : n = 0 := by simp at hs; omega
    subst this
    cases r <;> simp [partsI]
  | x :: l, 0, m, n, hr, _, _, _ => by simp at hr
  | x :: l, r + 1, m, n, hr, hm, hp, hs => by
    have hx := hm x List.mem_cons_self
    rw [List.pairwise_cons] at hp
    have h0 := sum_nonneg' l (fun y hy => (hm y (List.mem_cons_of_mem _ hy)).1)
    rw [List.sum_cons] at hs
    obtain ⟨k, hk⟩ : ∃ k : Nat, x = ((k + 1 : Nat) : Int) := ⟨x.toNat - 1, by omega⟩
    subst hk
    have ih := mem_parts l r (k + 1) (n - (k + 1)) (by simp at hr; omega) (fun y hy => ⟨(hm y (List.mem_cons_of_mem _ hy)).1, hp.1 y hy⟩) hp.2 (by omega)
    simp only [partsI]
    rw [if_neg (by omega)]
    exact List.mem_flatMap.2 ⟨k, List.mem_range.2 (by omega), List.mem_map.2 ⟨l, ih, rfl⟩⟩
theorem Shp.mono {l : List Int} (h : Shp l) : ∀ d i, i + d < l.length → l.getD (i + d) 0 ≤ l.getD i 0
  | 0, _, _ => Int.le_refl _
  | d + 1, i, hi => Int.le_trans (h.desc (i + d) (by omega)) (h.mono d i (by omega))
theorem le_sum {l : List Int} (h : ∀ y ∈ l, 1 ≤ y) {x : Int} (hx : x ∈ l) : x ≤ l.sum := by
  induction l with
  | nil => cases hx
  | cons a l ih =>
    have h1 := h a List.mem_cons_self
    have h2 := sum_nonneg' l (fun y hy => h y (List.mem_cons_of_mem _ hy))
    rw [List.sum_cons]
    rcases List.mem_cons.1 hx with rfl | hx
    · omega
    · have := ih (fun y hy => h y (List.mem_cons_of_mem _ hy)) hx
      omega
theorem Shp.parts {l : List Int} (h : Shp l) {n : Nat} (hn : l.sum = n) (h20 : n ≤ 20) : l ∈ partsI 12 20 n := by
  refine mem_parts l 12 20 n h.len (fun x hx => ?_) ?_ hn
  · have h1 := h.bound x hx
    have h2 := le_sum (fun y hy => (h.bound y hy).1) hx
    omega
  · rw [List.pairwise_iff_getElem]
    intro i j hi hj hij
    have := h.mono (j - i) i (by omega)
    rw [show i + (j - i) = j by omega, getD_at hj, getD_at hi] at this
    exact this
/-! ### the product of the hooks divides the product of the numbers -/
def prodI (l : List Int) : Int := l.foldl (fun a x => a * x) 1
def facI : Nat → Int
  | 0 => 1
  | n + 1 => facI n * (n + 1 : Nat)
def okP (n : Nat) (l : List Int) : Bool := decide (facI n % prodI (hk l).flatten = 0) && (hk l).flatten.all (fun h => decide (1 ≤ h) && decide (h ≤ 100)) && decide ((hk l).flatten.length ≤ 20)
theorem okP0 : ((List.range 13).all fun n => (partsI 12 20 n).all (okP n)) = true := by decide +kernel
theorem okP13 : (partsI 12 20 13).all (okP 13) = true := by decide +kernel
theorem okP14 : (partsI 12 20 14).all (okP 14) = true := by decide +kernel
theorem okP15 : (partsI 12 20 15).all (okP 15) = true := by decide +kernel
theorem okP16 : (partsI 12 20 16).all (okP 16) = true := by decide +kernel
theorem okP17 : (partsI 12 20 17).all (okP 17) = true := by decide +kernel
theorem okP18 : (partsI 12 20 18).all (okP 18) = true := by decide +kernel
theorem okP19 : (partsI 12 20 19).all (okP 19) = true := by decide +kernel
theorem okP20 : (partsI 12 20 20).all (okP 20) = true := by decide +kernel
theorem okP_all {n : Nat} (h : n ≤ 20) : (partsI 12 20 n).all (okP n) = true := by
  by_cases hn : n < 13
  · exact List.all_eq_true.1 okP0 n (List.mem_range.2 hn)
  · have : n = 13 ∨ n = 14 ∨ n = 15 ∨ n = 16 ∨ n = 17 ∨ n = 18 ∨ n = 19 ∨ n = 20 := by omega
    rcases this with rfl | rfl | rfl | rfl | rfl | rfl | rfl | rfl
    · exact okP13
    · exact okP14
    · exact okP15
    · exact okP16
    · exact okP17
    · exact okP18
    · exact okP19
    · exact okP20
/-! ### natural numbers -/
def cs (ns : List Nat) : List Int := ns.map fun (n : Nat) => (n : Int)
def prodN : List Nat → Nat
  | [] => 1
  | x :: l => x * prodN l
def facN : Nat → Nat
  | 0 => 1
  | n + 1 => facN n * (n + 1)
theorem facI_eq : ∀ n, facI n = (facN n : Int)
  | 0 => rfl
  | n + 1 => by
    simp only [facI, facN]
    rw [facI_eq n, Int.natCast_mul]
theorem facN_pos : ∀ n, 0 < facN n
  | 0 => Nat.one_pos
  | n + 1 => Nat.mul_pos (facN_pos n) (Nat.succ_pos n)
theorem facN_le {n : Nat} (h : n ≤ 20) : facN n ≤ 2432902008176640000 := by
  have : ((List.range 21).all fun n => decide (facN n ≤ 2432902008176640000)) = true := by decide +kernel
  exact of_decide_eq_true (List.all_eq_true.1 this n (List.mem_range.2 (by omega)))
theorem cs_getD (ns : List Nat) (i : Nat) : (cs ns).getD i 0 = ((ns.getD i 0 : Nat) : Int) := by
  unfold cs
  rw [List.getD_eq_getElem?_getD, List.getD_eq_getElem?_getD, List.getElem?_map]
  cases ns[i]? <;> rfl
theorem cs_length (ns : List Nat) : (cs ns).length = ns.length := by simp [cs]
theorem cs_set (ns : List Nat) (i x : Nat) : (cs ns).set i (x : Int) = cs (ns.set i x) := by
  unfold cs
  rw [List.map_set]
theorem prodN_set : ∀ (ns : List Nat) (i y d : Nat), i < ns.length → ns.getD i 0 = y * d → prodN ns = prodN (ns.set i y) * d
  | [], i, y, d, h, _ => by simp at h
  | x :: ns, 0, y, d, _, e => by
    have e : x = y * d := e
    show x * prodN ns = y * prodN ns * d
    rw [e, Nat.mul_assoc, Nat.mul_comm d, ← Nat.mul_assoc]
  | x :: ns, i + 1, y, d, h, e => by
    have ih := prodN_set ns i y d (by simpa using h) (by simpa using e)
    show x * prodN ns = x * prodN (ns.set i y) * d
    rw [ih, Nat.mul_assoc]
theorem prodN_pos : ∀ ns : List Nat, (∀ x ∈ ns, 0 < x) → 0 < prodN ns
  | [], _ => Nat.one_pos
  | x :: ns, h => Nat.mul_pos (h x List.mem_cons_self) (prodN_pos ns (fun y hy => h y (List.mem_cons_of_mem _ hy)))
theorem dvd_prodN : ∀ (ns : List Nat) (x : Nat), x ∈ ns → x ∣ prodN ns
  | [], x, h => by cases h
  | y :: ns, x, h => by
    rcases List.mem_cons.1 h with rfl | h
    · exact Nat.dvd_mul_right _ _
    · exact Nat.dvd_trans (dvd_prodN ns x h) (Nat.dvd_mul_left _ _)
theorem prodN_one : ∀ ns : List Nat, (∀ x ∈ ns, x = 1) → prodN ns = 1
  | [], _ => rfl
  | x :: ns, h => by
    show x * prodN ns = 1
    rw [h x List.mem_cons_self, prodN_one ns (fun y hy => h y (List.mem_cons_of_mem _ hy))]
theorem getD_memN {ns : List Nat} {i : Nat} (h : i < ns.length) : ns.getD i 0 ∈ ns := by
  rw [List.getD_eq_getElem?_getD, List.getElem?_eq_getElem h]
  exact List.getElem_mem h
theorem set_getD (ns : List Nat) (i x j : Nat) (h : i < ns.length) : (ns.set i x).getD j 0 = if i = j then x else ns.getD j 0 := by
  rw [List.getD_eq_getElem?_getD, List.getD_eq_getElem?_getD, List.getElem?_set]
  split
  · first | rfl | (rw [if_pos h]; rfl)
  · rfl
theorem wN (x : Nat) (h : x ≤ 9223372036854775807) : wrap64 (x : Int) = (x : Int) := w64 (by omega) (by omega)
theorem gcd_l0 : ∀ (b a k : Nat), b < k → blocks_divisor.l0 k (a : Int) (b : Int) = some ((Nat.gcd a b : Nat) : Int) := by
  intro b
  induction b using Nat.strongRecOn with
  | _ b ih =>
    intro a k hk
    obtain ⟨k, rfl, hk'⟩ := succK hk
    simp only [blocks_divisor.l0]
    rcases Nat.eq_zero_or_pos b with e | e
    · subst e
      rw [if_pos (by omega), Nat.gcd_zero_right]
    · have hm : Int.tmod (a : Int) (b : Int) = ((a % b : Nat) : Int) := by
        rw [Int.tmod_eq_emod_of_nonneg (by omega)]
        omega
      rw [if_neg (by omega), hm, ih (a % b) (Nat.mod_lt _ e) b k (by have := Nat.mod_lt a e; omega)]
      rw [Nat.gcd_comm a b, Nat.gcd_rec b a, Nat.gcd_comm]
theorem gcd_f (a b k : Nat) (h : b < k) : blocks_divisor.f k (a : Int) (b : Int) = some ((Nat.gcd a b : Nat) : Int) := gcd_l0 b a k h
theorem tdivN (a d : Nat) : Int.tdiv (a : Int) (d : Int) = ((a / d : Nat) : Int) := by
  rw [Int.tdiv_eq_ediv_of_nonneg (by omega)]
  omega
structure WInv (H M o : Nat) (ns : List Nat) : Prop where
  eq : o * H = M * prodN ns
  dvd : o ∣ M
  pos : 0 < o
  bd : ∀ x ∈ ns, 0 < x ∧ x ≤ 100
theorem WInv.le {H M o : Nat} {ns : List Nat} (h : WInv H M o ns) (hM : 0 < M) : o ≤ M := Nat.le_of_dvd hM h.dvd
theorem WInv.step {H M o : Nat} {ns : List Nat} (h : WInv H M o ns) {i : Nat} (hi : i < ns.length) : WInv H M (o / Nat.gcd o (ns.getD i 0)) (ns.set i (ns.getD i 0 / Nat.gcd o (ns.getD i 0))) := by
  have hx := h.bd _ (getD_memN hi)
  generalize hx0 : ns.getD i 0 = x at hx ⊢
  have hd : 0 < Nat.gcd o x := Nat.gcd_pos_of_pos_left _ h.pos
  have h1 : o / Nat.gcd o x * Nat.gcd o x = o := Nat.div_mul_cancel (Nat.gcd_dvd_left o x)
  have h2 : x / Nat.gcd o x * Nat.gcd o x = x := Nat.div_mul_cancel (Nat.gcd_dvd_right o x)
  generalize Nat.gcd o x = d at hd h1 h2 ⊢
  have hp := prodN_set ns i (x / d) d hi (by rw [hx0, h2])
  refine ⟨?_, ?_, ?_, fun y hy => ?_⟩
  · refine Nat.eq_of_mul_eq_mul_right hd ?_
    rw [Nat.mul_assoc M, ← hp, ← h.eq, Nat.mul_right_comm, h1]
  · exact Nat.dvd_trans ⟨d, h1.symm⟩ h.dvd
  · rcases Nat.eq_zero_or_pos (o / d) with e | e
    · rw [e, Nat.zero_mul] at h1
      have := h.pos
      omega
    · exact e
  · rcases List.mem_or_eq_of_mem_set hy with hy | rfl
    · exact h.bd y hy
    · refine ⟨?_, Nat.le_trans (Nat.div_le_self x d) hx.2⟩
      rcases Nat.eq_zero_or_pos (x / d) with e | e
      · rw [e, Nat.zero_mul] at h2
        omega
      · exact e
theorem Ways_l1 (H M N n : Nat) (hM : 0 < M) (hM2 : M ≤ 2432902008176640000) (hn : n ≤ 20) : ∀ m K i o (ns : List Nat), i + m = ns.length → ns.length ≤ 20 → 110 ≤ K → WInv H M o ns → (∀ j, j < i → Nat.Coprime o (ns.getD j 0)) →
    ∃ (o' : Nat) (ns' : List Nat), blocks_Ways.l1 (K + m + 1) (o : Int) (cs ns) (N : Int) (n : Int) (ns.length : Int) (i : Int) = blocks_Ways.l0 K (o' : Int) (cs ns') (N : Int) ((n + 1 : Nat) : Int) ∧ WInv H M o' ns' ∧ ns'.length = ns.length ∧ ∀ j, j < ns'.length → Nat.Coprime o' (ns'.getD j 0)
  | 0, K, i, o, ns, h, hl, hK, hI, hc => by
    refine ⟨o, ns, ?_, hI, rfl, fun j hj => hc j (by omega)⟩
    show blocks_Ways.l1 (K + 1) (o : Int) (cs ns) (N : Int) (n : Int) (ns.length : Int) (i : Int) = _
    simp only [blocks_Ways.l1]
    rw [if_neg (by omega), inc64 n (by omega)]
  | m + 1, K, i, o, ns, h, hl, hK, hI, hc => by
    have hi : i < ns.length := by omega
    have hx := hI.bd _ (getD_memN hi)
    have hle := hI.le hM
    have hstep := hI.step hi
    obtain ⟨F, hF⟩ : ∃ F, F = K + m + 1 := ⟨_, rfl⟩
    have hd : 0 < Nat.gcd o (ns.getD i 0) := Nat.gcd_pos_of_pos_left _ hI.pos
    have hg := gcd_f o (ns.getD i 0) F (by omega)
    have ih := Ways_l1 H M N n hM hM2 hn m K (i + 1) (o / Nat.gcd o (ns.getD i 0)) (ns.set i (ns.getD i 0 / Nat.gcd o (ns.getD i 0))) (by simp; omega) (by simp; omega) hK hstep (fun j hj => by
      rw [set_getD _ _ _ _ hi]
      split
      · exact Nat.coprime_div_gcd_div_gcd hd
      · exact Nat.Coprime.coprime_dvd_left (Nat.div_dvd_of_dvd (Nat.gcd_dvd_left _ _)) (hc j (by omega)))
    rw [← hF, List.length_set] at ih
    obtain ⟨o', ns', e, r1, r2, r3⟩ := ih
    refine ⟨o', ns', ?_, r1, r2, r3⟩
    rw [show K + (m + 1) + 1 = F + 1 by rw [hF]; rfl]
    have hx2 : ns.getD i 0 / Nat.gcd o (ns.getD i 0) ≤ 100 := Nat.le_trans (Nat.div_le_self _ _) hx.2
    have ho2 : o / Nat.gcd o (ns.getD i 0) ≤ o := Nat.div_le_self _ _
    simp only [blocks_Ways.l1]
    rw [if_pos (by omega), if_pos (by omega), if_pos (by rw [cs_length]; omega), rdn, cs_getD, hg, Option.bind_some, if_neg (by omega), tdivN, tdivN, wN _ (by omega), wN _ (by omega), Int.toNat_natCast, cs_set, inc64 i (by omega)]
    exact e
theorem Ways_l0 (H N : Nat) (hN : N ≤ 20) : ∀ m k n o (ns : List Nat), n + m = N → ns.length ≤ 20 → 23 * m + 200 ≤ k → WInv H (facN n) o ns → (0 < n → ∀ j, j < ns.length → Nat.Coprime o (ns.getD j 0)) →
    ∃ (o' : Nat) (ns' : List Nat), blocks_Ways.l0 k (o : Int) (cs ns) (N : Int) (n : Int) = some ((o' : Int), 0) ∧ WInv H (facN N) o' ns' ∧ ns'.length = ns.length ∧ (0 < N → ∀ j, j < ns'.length → Nat.Coprime o' (ns'.getD j 0))
  | 0, k, n, o, ns, h, hl, hk, hI, hc => by
    obtain ⟨k, rfl, _⟩ := succK (show 0 < k by omega)
    obtain rfl : n = N := by omega
    refine ⟨o, ns, ?_, hI, rfl, hc⟩
    simp only [blocks_Ways.l0]
    rw [if_neg (by omega)]
  | m + 1, k, n, o, ns, h, hl, hk, hI, hc => by
    obtain ⟨K, rfl⟩ : ∃ K, k = (K + ns.length + 1) + 1 := ⟨k - ns.length - 2, by omega⟩
    have hle := hI.le (facN_pos n)
    have hf : facN (n + 1) = facN n * (n + 1) := rfl
    have hf20 := facN_le (n := n + 1) (by omega)
    have hI2 : WInv H (facN (n + 1)) (o * (n + 1)) ns := ⟨by rw [hf, Nat.mul_right_comm, hI.eq, Nat.mul_right_comm], Nat.mul_dvd_mul_right hI.dvd _, Nat.mul_pos hI.pos (Nat.succ_pos n), hI.bd⟩
    have hle2 := hI2.le (facN_pos (n + 1))
    obtain ⟨o1, ns1, e, r1, r2, r3⟩ := Ways_l1 H (facN (n + 1)) N n (facN_pos _) hf20 (by omega) ns.length K 0 (o * (n + 1)) ns (by omega) hl (by omega) hI2 (fun j hj => by omega)
    obtain ⟨o', ns', e2, s1, s2, s3⟩ := Ways_l0 H N hN m K (n + 1) o1 ns1 (by omega) (by omega) (by omega) r1 (fun _ => r3)
    refine ⟨o', ns', ?_, s1, by rw [s2, r2], s3⟩
    obtain ⟨F, hF⟩ : ∃ F, F = K + ns.length + 1 := ⟨_, rfl⟩
    rw [← hF] at e ⊢
    have hw : wrap64 ((o : Int) * ((n + 1 : Nat) : Int)) = ((o * (n + 1) : Nat) : Int) := by
      rw [Int.natCast_mul]
      have : (o : Int) * ((n + 1 : Nat) : Int) = ((o * (n + 1) : Nat) : Int) := by rw [Int.natCast_mul]
      rw [this]
      exact w64 (by omega) (by omega)
    simp only [blocks_Ways.l0]
    rw [if_pos (by omega), inc64 n (by omega), hw, cs_length]
    exact e.trans e2
theorem rdL (a : List (List Int)) (i : Nat) : rd_L1 a (i : Int) = a.getD i [] := by
  unfold rd_L1
  rw [Int.toNat_natCast]
theorem drop_getDL {a : List (List Int)} {i : Nat} (h : i < a.length) : a.drop i = a.getD i [] :: a.drop (i + 1) := by
  rw [List.drop_eq_getElem_cons h, List.getD_eq_getElem?_getD, List.getElem?_eq_getElem h]
  rfl
theorem getDL_mem {a : List (List Int)} {i : Nat} (h : i < a.length) : a.getD i [] ∈ a := by
  rw [List.getD_eq_getElem?_getD, List.getElem?_eq_getElem h]
  exact List.getElem_mem h
theorem Concat_l1 (a : List (List Int)) (ha : a.length ≤ 1000) (hb : ∀ x ∈ a, x.length ≤ 1000) : ∀ n k (i : Nat) (acc : List Int), i + n = a.length → n < k → acc.length ≤ 1000 * i → slices_Concat_int_int.l1 k acc a a.length i = some (acc ++ (a.drop i).flatten)
  | 0, k, i, acc, h, hk, _ => by
    obtain ⟨k, rfl, _⟩ := succK hk
    simp only [slices_Concat_int_int.l1]
    rw [if_neg (by omega), List.drop_eq_nil_of_le (by omega)]
    simp
  | n + 1, k, i, acc, h, hk, hl => by
    obtain ⟨k, rfl, hk'⟩ := succK hk
    have hi : i < a.length := by omega
    have hx := hb _ (getDL_mem hi)
    have ih := Concat_l1 a ha hb n k (i + 1) (acc ++ a.getD i []) (by omega) (by omega) (by rw [List.length_append]; omega)
    simp only [slices_Concat_int_int.l1]
    rw [if_pos (by omega), if_pos (by omega), if_pos (by omega), rdL, if_pos (by omega), inc64 i (by omega)]
    refine Eq.trans ih ?_
    rw [drop_getDL hi, List.flatten_cons, List.append_assoc]
theorem Concat_l0 (a : List (List Int)) (ha : a.length ≤ 1000) (hb : ∀ x ∈ a, x.length ≤ 1000) : ∀ n k (i : Nat) (s : Int), i + n = a.length → n + a.length + 2 ≤ k → 0 ≤ s → s ≤ 1000 * i → slices_Concat_int_int.l0 k a s a a.length i = some a.flatten
  | 0, k, i, s, h, hk, h0, h1 => by
    obtain ⟨k, rfl, _⟩ := succK (show 0 < k by omega)
    have hL := Concat_l1 a ha hb a.length k 0 [] (by omega) (by omega) (by simp)
    simp only [slices_Concat_int_int.l0]
    rw [if_neg (by omega)]
    unfold slices_Grow_int_int.f
    rw [if_pos ⟨rfl, h0, by omega⟩, Option.bind_some]
    exact hL
  | n + 1, k, i, s, h, hk, h0, h1 => by
    obtain ⟨k, rfl, hk'⟩ := succK (show 0 < k by omega)
    have hi : i < a.length := by omega
    have hx := hb _ (getDL_mem hi)
    have e1 : wrap64 (s + ((a.getD i []).length : Int)) = s + ((a.getD i []).length : Int) := w64 (by omega) (by omega)
    have ih := Concat_l0 a ha hb n k (i + 1) (s + ((a.getD i []).length : Int)) (by omega) (by omega) (by omega) (by omega)
    simp only [slices_Concat_int_int.l0]
    rw [if_pos (by omega), if_pos (by omega), if_pos (by omega), rdL, e1, if_neg (by omega), inc64 i (by omega)]
    exact ih
theorem Concat_f (a : List (List Int)) (ha : a.length ≤ 1000) (hb : ∀ x ∈ a, x.length ≤ 1000) (k : Nat) (hk : 2 * a.length + 2 ≤ k) : slices_Concat_int_int.f k a = some a.flatten := by
  unfold slices_Concat_int_int.f
  have := Concat_l0 a ha hb a.length k 0 0 (by omega) (by omega) (Int.le_refl _) (by simp)
  exact this
/-! ### the hooks as natural numbers -/
def hN (l : List Int) : List (List Nat) := (hk l).map fun x => x.map Int.toNat
theorem cs_toNat : ∀ x : List Int, (∀ h ∈ x, 0 ≤ h) → cs (x.map Int.toNat) = x
  | [], _ => rfl
  | a :: x, h => by
    have h1 := h a List.mem_cons_self
    have h2 := cs_toNat x (fun y hy => h y (List.mem_cons_of_mem _ hy))
    show ((a.toNat : Nat) : Int) :: cs (x.map Int.toNat) = a :: x
    rw [h2, Int.toNat_of_nonneg h1]
theorem map_cs : ∀ a : List (List Int), (∀ h ∈ a.flatten, 0 ≤ h) → (a.map fun x => x.map Int.toNat).map cs = a
  | [], _ => rfl
  | x :: a, h => by
    simp only [List.map_cons]
    rw [map_cs a (fun y hy => h y (by rw [List.flatten_cons]; exact List.mem_append_right _ hy)), cs_toNat x (fun y hy => h y (by rw [List.flatten_cons]; exact List.mem_append_left _ hy))]
theorem flatten_cs (L : List (List Nat)) : (L.map cs).flatten = cs L.flatten := by
  unfold cs
  rw [List.map_flatten]
theorem prodI_cs (ns : List Nat) : prodI (cs ns) = (prodN ns : Int) := by
  have h : ∀ (ns : List Nat) (a : Int), (cs ns).foldl (fun a x => a * x) a = a * (prodN ns : Int) := by
    intro ns
    induction ns with
    | nil => intro a; simp [cs, prodN]
    | cons x ns ih =>
      intro a
      show (cs ns).foldl (fun a x => a * x) (a * (x : Int)) = a * ((x * prodN ns : Nat) : Int)
      rw [ih, Int.natCast_mul, Int.mul_assoc]
  have := h ns 1
  rw [Int.one_mul] at this
  exact this
/-- What the kernel has checked of a small shape. -/
structure Small (l : List Int) (n : Nat) (L : List (List Nat)) : Prop where
  hk : hk l = L.map cs
  dvd : prodN L.flatten ∣ facN n
  bd : ∀ x ∈ L.flatten, 0 < x ∧ x ≤ 100
  len : L.flatten.length ≤ 20
theorem small {l : List Int} (hs : Shp l) {n : Nat} (hn : l.sum = n) (h20 : n ≤ 20) : Small l n (hN l) := by
  have hm := hs.parts hn h20
  have hok := List.all_eq_true.1 (okP_all h20) l hm
  simp only [okP, Bool.and_eq_true, decide_eq_true_eq] at hok
  obtain ⟨⟨h1, h2⟩, h3⟩ := hok
  have hb : ∀ x ∈ (hk l).flatten, 1 ≤ x ∧ x ≤ 100 := fun x hx => by
    have := List.all_eq_true.1 h2 x hx
    simpa using this
  have e : (hN l).map cs = hk l := map_cs (hk l) (fun x hx => by have := hb x hx; omega)
  have ef : (hk l).flatten = cs (hN l).flatten := by rw [← e, flatten_cs]
  refine ⟨e.symm, ?_, fun x hx => ?_, ?_⟩
  · rw [ef, prodI_cs, facI_eq] at h1
    exact Int.natCast_dvd_natCast.1 (Int.dvd_of_emod_eq_zero h1)
  · have hx' : ((x : Nat) : Int) ∈ cs (hN l).flatten := List.mem_map.2 ⟨x, hx, rfl⟩
    rw [← ef] at hx'
    have := hb _ hx'
    omega
  · rw [ef, cs_length] at h3
    exact h3
/-! ### the specification's division -/
theorem prodN_append : ∀ a b : List Nat, prodN (a ++ b) = prodN a * prodN b
  | [], b => by simp [prodN]
  | x :: a, b => by
    show x * prodN (a ++ b) = x * prodN a * prodN b
    rw [prodN_append a b, Nat.mul_assoc]
theorem drop_getDN {a : List Nat} {i : Nat} (h : i < a.length) : a.drop i = a.getD i 0 :: a.drop (i + 1) := by
  rw [List.drop_eq_getElem_cons h, List.getD_eq_getElem?_getD, List.getElem?_eq_getElem h]
  rfl
theorem drop_getDLN {a : List (List Nat)} {i : Nat} (h : i < a.length) : a.drop i = a.getD i [] :: a.drop (i + 1) := by
  rw [List.drop_eq_getElem_cons h, List.getD_eq_getElem?_getD, List.getElem?_eq_getElem h]
  rfl
theorem rdcs (L : List (List Nat)) (r : Nat) : rd_L1 (L.map cs) (r : Int) = cs (L.getD r []) := by
  rw [rdL, List.getD_eq_getElem?_getD, List.getD_eq_getElem?_getD, List.getElem?_map]
  cases L[r]? <;> rfl
theorem prod_pos_of {L : List (List Nat)} (hb : ∀ x ∈ L.flatten, 0 < x ∧ x ≤ 100) : 0 < prodN L.flatten := prodN_pos _ (fun x hx => (hb x hx).1)
/-- Ways of a small shape: the product of 1 to n over the product of the hooks. -/
def waysN (l : List Int) (n : Nat) : Nat := facN n / prodN (hN l).flatten
theorem bWays_small (l : List Int) (hs : Shp l) {n : Nat} (hn : l.sum = n) (h20 : n ≤ 20) (k : Nat) (hk1 : 1500 ≤ k) : blocks_Ways.f k l = some ((waysN l n : Int), 0) := by
  have hS := small hs hn h20
  have hl := hs.len
  have htot := total_f l (by omega) (fun x hx => by have := hs.bound x hx; omega) k (by omega)
  have hsm := hk_small hs
  unfold blocks_Ways.f
  rw [bIs_f l k (by omega), Option.bind_some, (isShp_iff l).2 hs, if_pos rfl, htot, Option.bind_some, if_neg (by omega), hooks_f l hs k (by omega), Option.bind_some, Concat_f (hk l) (by omega) (fun x hx => by have := hsm.2 x hx; omega) k (by omega), Option.bind_some, Option.bind_some, hS.hk, flatten_cs, hn]
  have hpos := prod_pos_of hS.bd
  obtain ⟨o, ns, e, r1, r2, r3⟩ := Ways_l0 (prodN (hN l).flatten) n h20 n k 0 1 (hN l).flatten (by omega) hS.len (by omega) ⟨rfl, Nat.dvd_refl _, Nat.one_pos, hS.bd⟩ (fun h => by omega)
  refine Eq.trans e ?_
  obtain ⟨Q, hQ⟩ := hS.dvd
  have hq : waysN l n = Q := by
    unfold waysN
    rw [hQ, Nat.mul_div_cancel_left _ hpos]
  have hoQ : o = Q * prodN ns := by
    refine Nat.eq_of_mul_eq_mul_right hpos ?_
    rw [r1.eq, hQ, Nat.mul_comm (prodN (hN l).flatten) Q, Nat.mul_right_comm]
  have hone : prodN ns = 1 := by
    rcases Nat.eq_zero_or_pos n with e0 | e0
    · subst e0
      have h1 : prodN (hN l).flatten = 1 := Nat.eq_one_of_dvd_one hS.dvd
      have h2 := r1.eq
      have h3 := r1.dvd
      have h4 : o = 1 := Nat.eq_one_of_dvd_one h3
      rw [h1, h4] at h2
      have h5 : (1 : Nat) * 1 = 1 * prodN ns := h2
      omega
    · refine prodN_one ns fun x hx => ?_
      obtain ⟨j, hj, ej⟩ := List.mem_iff_getElem.1 hx
      have hc := r3 e0 j hj
      rw [List.getD_eq_getElem?_getD, List.getElem?_eq_getElem hj] at hc
      have hc : Nat.Coprime o x := by rw [← ej]; exact hc
      have hd : x ∣ o := by rw [hoQ]; exact Nat.dvd_trans (dvd_prodN ns x hx) (Nat.dvd_mul_left _ _)
      have := Nat.dvd_gcd hd (Nat.dvd_refl x)
      rw [hc] at this
      exact Nat.eq_one_of_dvd_one this
  rw [hq, hoQ, hone, Nat.mul_one]
end Go.Proofs.Ytcmphfcpiciehaa.Pure
