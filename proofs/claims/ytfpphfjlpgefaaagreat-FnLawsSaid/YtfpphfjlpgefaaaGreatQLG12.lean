/- Lemmas. -/
import Derived.Test.YtfpphfjlpgefaaaGreatQLG1
/- Inverses modulo a number, by Euclid's algorithm, and common divisors, in plain arithmetic. No program stands here. -/
set_option linter.unusedSimpArgs false
set_option linter.unusedVariables false
namespace Go.Proofs.YtfpphfjlpgefaaaGreat

def eu (r s : Nat) (x y : Int) : Int := if h : s = 0 then x else eu s (r % s) y (x - ((r / s : Nat) : Int) * y)
termination_by s
decreasing_by exact Nat.mod_lt _ (by omega)
theorem eu_0 (r : Nat) (x y : Int) : eu r 0 x y = x := by rw [eu]; simp
theorem eu_s {r s : Nat} (h : s ≠ 0) (x y : Int) : eu r s x y = eu s (r % s) y (x - ((r / s : Nat) : Int) * y) := by conv => lhs; rw [eu, dif_neg h]
def invM (m a : Int) : Int := eu m.toNat (a % m).toNat 0 1 % m
theorem invM_range {m : Int} (hm : 0 < m) (a : Int) : 0 ≤ invM m a ∧ invM m a < m := mod_lt' hm
structure EuI (m r s : Nat) (x y : Int) : Prop where
 ex : ∃ X Y : Nat, Y * r + X * s = m ∧ ((x = X ∧ y = -(Y : Int)) ∨ (x = -(X : Int) ∧ y = Y))
 lt : s < r
 le : r ≤ m
 bx : -(m : Int) ≤ x ∧ x ≤ m
theorem EuI.start {m a : Nat} (h : a < m) : EuI m m a 0 1 := ⟨⟨0, 1, by simp, .inr ⟨by simp, by simp⟩⟩, h, Nat.le_refl _, by omega⟩
theorem EuI.bounds {m r s : Nat} {x y : Int} (h : EuI m r s x y) : -(m : Int) ≤ y ∧ y ≤ m := by
 obtain ⟨⟨X, Y, hm, hx⟩, hl, hle, -⟩ := h
 have h2 : Y ≤ Y * r := Nat.le_mul_of_pos_right _ (by omega)
 rcases hx with ⟨rfl, rfl⟩ | ⟨rfl, rfl⟩ <;> omega
theorem EuI.step {m r s : Nat} {x y : Int} (h : EuI m r s x y) (hs : s ≠ 0) : EuI m s (r % s) y (x - ((r / s : Nat) : Int) * y) := by
 have hby := h.bounds
 obtain ⟨⟨X, Y, hm, hx⟩, hl, hle, -⟩ := h
 refine ⟨⟨Y, X + r / s * Y, ?_, ?_⟩, Nat.mod_lt _ (by omega), by omega, hby⟩
 ·have e := Nat.div_add_mod r s
  have e2 : (X + r / s * Y) * s + Y * (r % s) = X * s + Y * (s * (r / s) + r % s) := by grind
  rw [e2, e, ← hm]; omega
 ·rcases hx with ⟨rfl, rfl⟩ | ⟨rfl, rfl⟩
  ·exact .inr ⟨rfl, by push_cast; grind⟩
  ·exact .inl ⟨rfl, by push_cast; grind⟩
theorem EuI.prod {m r s : Nat} {x y : Int} (h : EuI m r s x y) (hs : s ≠ 0) : -(m : Int) ≤ ((r / s : Nat) : Int) * y ∧ ((r / s : Nat) : Int) * y ≤ m := by
 have h1 := (h.step hs).bounds
 obtain ⟨⟨X, Y, hm, hx⟩, hl, hle, -⟩ := h
 have hn : 0 ≤ ((r / s : Nat) : Int) * (Y : Int) := Int.mul_nonneg (Int.natCast_nonneg _) (Int.natCast_nonneg _)
 generalize ((r / s : Nat) : Int) = q at *
 rcases hx with ⟨rfl, rfl⟩ | ⟨rfl, rfl⟩
 ·rw [Int.mul_neg] at h1 ⊢; omega
 ·omega
end Go.Proofs.YtfpphfjlpgefaaaGreat

/- Inverses and reversions of power series, integrals; units. No program stands here. -/
namespace Go.Proofs.YtfpphfjlpgefaaaGreat

theorem conv_congr {a a' b b' : Nat → Int} {k : Nat} (h : ∀ i, i ≤ k → a i * b (k - i) = a' i * b' (k - i)) : conv a b k = conv a' b' k := sumN_congr fun i hi => h i (by omega)
theorem horn_at {m : Int} {N : Nat} {f : List Int} (h0 : at0 f 0 = 0) (cs : List Int) {j : Nat} (hj : j < N) :
  at0 (horn m N f cs) j = (if j = 0 then at0 cs 0 else conv (at0 (horn m N f cs.tail)) (at0 f) j) % m := by
 have hz : ∀ i, at0 (List.replicate N (0 : Int)) i = 0 := fun i => by
  rw [mk_zero]
  by_cases h : i < N
  ·rw [mk_at h]
  ·rw [mk_out (by omega)]
 cases cs with
 | nil =>
   simp only [horn, List.tail_nil]
   rw [hz]
   by_cases h : j = 0
   ·simp [h, at0]
   ·rw [if_neg h]
    unfold conv
    rw [sumN_zero (fun i _ => by rw [hz, Int.zero_mul])]; simp
 | cons c cs =>
   simp only [horn, List.tail_cons]
   unfold addc timesL
   rw [mk_set]
   rw [mk_at hj]
   by_cases h : j = 0
   ·subst h
    rw [if_pos rfl, if_pos rfl, mk_at hj]
    unfold conv
    simp only [sumN, Nat.sub_self, h0, Int.mul_zero]
    simp [at0]
   ·rw [if_neg h, if_neg h]
theorem horn_cong {m : Int} {N N' : Nat} {f f' : List Int} (h0 : at0 f 0 = 0) (h0' : at0 f' 0 = 0) : ∀ (j : Nat), j < N → j < N' → (∀ i, i ≤ j → at0 f i = at0 f' i) →
  ∀ cs cs' : List Int, (∀ i, i ≤ j → at0 cs i = at0 cs' i) → at0 (horn m N f cs) j = at0 (horn m N' f' cs') j := by
 intro j
 induction j using Nat.strongRecOn with
 | _ j ih =>
   intro hN hN' hf cs cs' hc
   rw [horn_at h0 cs hN, horn_at h0' cs' hN']
   by_cases h : j = 0
   ·rw [if_pos h, if_pos h, hc 0 (by omega)]
   ·rw [if_neg h, if_neg h]
    rw [conv_congr (fun i hi => ?_)]
    by_cases hij : i = j
    ·subst hij; rw [Nat.sub_self, h0, h0', Int.mul_zero, Int.mul_zero]
    ·rw [ih i (by omega) (by omega) (by omega) (fun k hk => hf k (by omega)) cs.tail cs'.tail (fun k hk => ?_), hf (j - i) (by omega)]
     have e : ∀ l : List Int, at0 l.tail k = at0 l (k + 1) := fun l => by cases l <;> simp [at0, List.getD]
     rw [e, e]; exact hc (k + 1) (by omega)
theorem at0_take {a : List Int} {n i : Nat} (h : i < n) : at0 (a.take n) i = at0 a i := by
 unfold at0 List.getD; rw [List.getElem?_take, if_pos h]
theorem at0_set {l : List Int} {k i : Nat} {x : Int} : at0 (l.set k x) i = if i = k ∧ k < l.length then x else at0 l i := by
 unfold at0 List.getD
 rw [List.getElem?_set]
 by_cases h : k = i
 ·subst h
  by_cases h2 : k < l.length
  ·simp [h2]
  ·rw [if_pos rfl, if_neg h2, if_neg (by omega)]
   rw [List.getElem?_eq_none (by omega)]
 ·rw [if_neg h, if_neg (by omega)]

def revTo (m : Int) (n : Nat) (a : List Int) : Nat → List Int
 | 0 => List.replicate n 0
 | 1 => (List.replicate n 0).set 1 (invM m (at0 a 1))
 | k + 2 => (revTo m n a (k + 1)).set (k + 2) ((-(at0 (horn m n (revTo m n a (k + 1)) a) (k + 2)) * invM m (at0 a 1)) % m)
def revL (m : Int) (n : Nat) (a : List Int) : List Int := revTo m n a (n - 1)
theorem revTo_len (m : Int) (n : Nat) (a : List Int) : ∀ k, (revTo m n a k).length = n
 | 0 => by simp [revTo]
 | 1 => by simp [revTo]
 | k + 2 => by simp [revTo, revTo_len m n a (k + 1)]
theorem revL_len (m : Int) (n : Nat) (a : List Int) : (revL m n a).length = n := revTo_len _ _ _ _
theorem revTo_range {m : Int} (hm : 0 < m) (n : Nat) (a : List Int) : ∀ k, ∀ x ∈ revTo m n a k, 0 ≤ x ∧ x < m
 | 0 => by intro x hx; simp [revTo] at hx; omega
 | 1 => by
   intro x hx
   rcases List.mem_or_eq_of_mem_set hx with h | rfl
   ·simp at h; omega
   ·exact invM_range hm _
 | k + 2 => by
   intro x hx
   rcases List.mem_or_eq_of_mem_set hx with h | rfl
   ·exact revTo_range hm n a (k + 1) x h
   ·exact mod_lt' hm
theorem revTo_0 (m : Int) (n : Nat) (a : List Int) : ∀ k, at0 (revTo m n a k) 0 = 0
 | 0 => by unfold revTo; rw [mk_zero]; cases n <;> simp [mk, at0]
 | 1 => by
   unfold revTo; rw [at0_set, if_neg (by omega), mk_zero]; cases n <;> simp [mk, at0]
 | k + 2 => by
   unfold revTo; rw [at0_set, if_neg (by omega)]; exact revTo_0 m n a (k + 1)
theorem rev_step {m : Int} (hm : 0 < m) {n k : Nat} {a : List Int} (hk : k + 2 < n) :
  (m - at0 (horn m (k + 3) (revTo m n a (k + 1)) (a.take (k + 3))) (k + 2)) * invM m (at0 a 1) % m = (-(at0 (horn m n (revTo m n a (k + 1)) a) (k + 2)) * invM m (at0 a 1)) % m := by
 rw [horn_cong (N' := n) (f' := revTo m n a (k + 1)) (revTo_0 _ _ _ _) (revTo_0 _ _ _ _) (k + 2) (by omega) hk (fun _ _ => rfl) _ a (fun i hi => at0_take (by omega))]
 have e : ∀ x y : Int, (m - x) * y = -x * y + m * y := fun x y => by grind
 rw [e, Int.add_mul_emod_self_left]
theorem neg_mul_mod {m x u : Int} : (-(x * u % m)) % m = (-x * u) % m := by
 have : (-(x * u % m)) % m = (-(x * u)) % m := by
  rw [Int.neg_emod_eq_sub_emod, Int.neg_emod_eq_sub_emod, Int.sub_emod, Int.emod_emod_of_dvd _ (Int.dvd_refl m), ← Int.sub_emod]
 rw [this, Int.neg_mul]

def invG (m : Int) (a : List Int) : Nat → List Int
 | 0 => [invM m (at0 a 0)]
 | k + 1 => invG m a k ++ [(-(conv (at0 a) (at0 (invG m a k)) (k + 1)) * invM m (at0 a 0)) % m]
def invS (m : Int) (n : Nat) (a : List Int) : List Int := invG m a (n - 1)
theorem invG_len (m : Int) (a : List Int) (k : Nat) : (invG m a k).length = k + 1 := by
 induction k with
 | zero => rfl
 | succ k ih => simp [invG, ih]
theorem invS_len {m : Int} {n : Nat} (a : List Int) (hn : 1 ≤ n) : (invS m n a).length = n := by unfold invS; rw [invG_len]; omega
theorem invG_range {m : Int} (hm : 0 < m) (a : List Int) (k : Nat) : ∀ x ∈ invG m a k, 0 ≤ x ∧ x < m := by
 induction k with
 | zero => intro x hx; simp [invG] at hx; subst hx; exact invM_range hm _
 | succ k ih =>
   intro x hx
   unfold invG at hx
   rcases List.mem_append.1 hx with h | h
   ·exact ih x h
   ·simp at h; subst h; exact mod_lt' hm
def invP (m : Int) (n : Nat) (a : List Int) (k : Nat) : List Int := invG m a k ++ List.replicate (n - 1 - k) 0
theorem invP_range {m : Int} (hm : 0 < m) (n : Nat) (a : List Int) (k : Nat) : ∀ x ∈ invP m n a k, 0 ≤ x ∧ x < m := by
 intro x hx
 rcases List.mem_append.1 hx with h | h
 ·exact invG_range hm a k x h
 ·simp at h; omega
theorem invP_all {m : Int} {n : Nat} {a : List Int} : invP m n a (n - 1) = invS m n a := by simp [invP, invS]
def sumTo (m : Int) (a b : List Int) (n i : Nat) : Int := sumN i (fun i => at0 a (i + 1) * at0 b (n - (i + 1))) % m
theorem sumTo_step {m : Int} {a b : List Int} {n i : Nat} : (sumTo m a b n i + at0 a (i + 1) * at0 b (n - (i + 1))) % m = sumTo m a b n (i + 1) := by
 unfold sumTo
 simp only [sumN]
 rw [Int.add_emod, Int.emod_emod_of_dvd _ (Int.dvd_refl m), ← Int.add_emod]
theorem sumTo_range {m : Int} (hm : 0 < m) (a b : List Int) (n i : Nat) : 0 ≤ sumTo m a b n i ∧ sumTo m a b n i < m := mod_lt' hm
theorem sumN_first (n : Nat) (f : Nat → Int) : sumN (n + 1) f = f 0 + sumN n (fun i => f (i + 1)) := by
 induction n with
 | zero => simp [sumN]
 | succ n ih => rw [show sumN (n + 1 + 1) f = sumN (n + 1) f + f (n + 1) from rfl, ih]; simp only [sumN]; omega
theorem inv_step {m : Int} {a : List Int} {k i : Nat} (hi : i ≤ k + 1) (h : i = k + 1 ∨ a.length ≤ i + 1) :
  (m - sumTo m a (invG m a k) (k + 1) i) * invM m (at0 a 0) % m = (-(conv (at0 a) (at0 (invG m a k)) (k + 1)) * invM m (at0 a 0)) % m := by
 have e : conv (at0 a) (at0 (invG m a k)) (k + 1) = sumN i (fun i => at0 a (i + 1) * at0 (invG m a k) (k + 1 - (i + 1))) := by
  unfold conv
  rw [sumN_first, Nat.sub_zero, at0_out (xs := invG m a k) (by rw [invG_len]; omega), Int.mul_zero, Int.zero_add]
  obtain ⟨d, hd⟩ : ∃ d, k + 1 = i + d := ⟨k + 1 - i, by omega⟩
  rw [show sumN (k + 1) (fun i => at0 a (i + 1) * at0 (invG m a k) (k + 1 - (i + 1))) = sumN (i + d) (fun i => at0 a (i + 1) * at0 (invG m a k) (k + 1 - (i + 1))) by rw [← hd], sumN_split]
  rw [sumN_zero (n := d) (fun j hj => ?_), Int.add_zero]
  rcases h with h | h
  ·omega
  ·rw [at0_out (xs := a) (by omega), Int.zero_mul]
 rw [e]
 unfold sumTo
 generalize sumN i (fun i => at0 a (i + 1) * at0 (invG m a k) (k + 1 - (i + 1))) = s
 have e2 : (m - s % m) * invM m (at0 a 0) = -(s % m) * invM m (at0 a 0) + m * invM m (at0 a 0) := by grind
 rw [e2, Int.add_mul_emod_self_left, ← neg_mul_mod, ← neg_mul_mod (x := s), Int.mul_emod, Int.emod_emod_of_dvd _ (Int.dvd_refl m), ← Int.mul_emod]

def axT (n : Nat) (a : List Int) (k : Int) : List (List Int) := tri n (fun i j => if k = 0 then (if j = 0 then at0 a i else 0) else (if i = 0 then at0 a j else 0))
end Go.Proofs.YtfpphfjlpgefaaaGreat
