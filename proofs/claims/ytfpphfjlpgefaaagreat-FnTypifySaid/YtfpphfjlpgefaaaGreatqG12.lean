/- Lemmas. -/
import Derived.Test.YtfpphfjlpgefaaaGreatqG1
set_option linter.unusedSimpArgs false
set_option linter.unusedVariables false
namespace Go.Proofs.YtfpphfjlpgefaaaGreat
section

def eu (r s : Nat) (x y : Int) : Int := if h : s = 0 then x else eu s (r % s) y (x - ((r / s : Nat) : Int) * y)
termination_by s
decreasing_by exact Nat.mod_lt _ Oo
theorem eu_0 (r : Nat) (x y : Int) : eu r 0 x y = x := by rw [eu]; simp
theorem eu_s {r s : Nat} (h : s ≠ 0) (x y : Int) : eu r s x y = eu s (r % s) y (x - ((r / s : Nat) : Int) * y) := by conv => lhs; rw [eu, dif_neg h]
def qAI (m a : Int) : Int := eu m.toNat (a % m).toNat 0 1 % m
theorem qDn {m : Int} (hm : 0 < m) (a : Int) : 0 ≤ qAI m a ∧ qAI m a < m := qA6 hm
structure EuI (m r s : Nat) (x y : Int) : Prop where
 ex : ∃ X Y : Nat, Y * r + X * s = m ∧ ((x = X ∧ y = -(Y : Int)) ∨ (x = -(X : Int) ∧ y = Y))
 lt : s < r
 le : r ≤ m
 bx : -(m : Int) ≤ x ∧ x ≤ m
theorem EuI.start {m a : Nat} (h : a < m) : EuI m m a 0 1 := ⟨⟨0, 1, by simp, .inr ⟨by simp, by simp⟩⟩, h, Nat.le_refl _, Oo⟩
theorem EuI.bounds {m r s : Nat} {x y : Int} (h : EuI m r s x y) : -(m : Int) ≤ y ∧ y ≤ m := by
 obtain ⟨⟨X, Y, hm, hx⟩, hl, hle, -⟩ := h
 have h2 : Y ≤ Y * r := Nat.le_mul_of_pos_right _ Oo
 rcases hx with ⟨rfl, rfl⟩ | ⟨rfl, rfl⟩ <;> omega
theorem EuI.step {m r s : Nat} {x y : Int} (h : EuI m r s x y) (hs : s ≠ 0) : EuI m s (r % s) y (x - ((r / s : Nat) : Int) * y) := by
 have hby := h.bounds
 obtain ⟨⟨X, Y, hm, hx⟩, hl, hle, -⟩ := h
 refine ⟨⟨Y, X + r / s * Y, ?_, ?_⟩, Nat.mod_lt _ Oo, Oo, hby⟩
 ·have e := Nat.div_add_mod r s; have e2 : (X + r / s * Y) * s + Y * (r % s) = X * s + Y * (s * (r / s) + r % s) := by grind
  rw [e2, e, ← hm]; omega
 ·rcases hx with ⟨rfl, rfl⟩ | ⟨rfl, rfl⟩
  ·exact .inr ⟨rfl, by push_cast; grind⟩
  ·exact .inl ⟨rfl, by push_cast; grind⟩
theorem EuI.prod {m r s : Nat} {x y : Int} (h : EuI m r s x y) (hs : s ≠ 0) : -(m : Int) ≤ ((r / s : Nat) : Int) * y ∧ ((r / s : Nat) : Int) * y ≤ m := by
 have h1 := (h.step hs).bounds
 obtain ⟨⟨X, Y, hm, hx⟩, hl, hle, -⟩ := h
 have hn : 0 ≤ ((r / s : Nat) : Int) * (Y : Int) := Int.mul_nonneg (Int.natCast_nonneg _) (Int.natCast_nonneg _)
 generalize ((r / s : Nat) : Int) = q at *
 rcases hx with ⟨rfl, rfl⟩ | ⟨rfl, rfl⟩
 ·rw [Int.mul_neg] at h1 ⊢; omega
 ·omega
theorem qPg {m a : Int} : ∀ (s r : Nat) (x y : Int), x * a % m = (r : Int) % m → y * a % m = (s : Int) % m → eu r s x y * a % m = ((Nat.gcd r s : Nat) : Int) % m := by
 intro s
 induction s using Nat.strongRecOn with
 | _ s ih =>
   intro r x y hx hy
   by_cases hs : s = 0
   ·subst hs; rw [eu_0, Nat.gcd_zero_right]; exact hx
   ·rw [eu_s hs, Nat.gcd_comm, Nat.gcd_rec, Nat.gcd_comm]; refine ih (r % s) (Nat.mod_lt _ Oo) s y _ hy ?_; have e := Nat.div_add_mod r s
    have e1 : ((r % s : Nat) : Int) = (r : Int) - ((r / s : Nat) : Int) * (s : Int) := by
     have : ((s * (r / s) + r % s : Nat) : Int) = (r : Int) := by rw [e]
     push_cast at this ⊢; grind
    have e2 : (x - ((r / s : Nat) : Int) * y) * a = x * a - ((r / s : Nat) : Int) * (y * a) := by grind
    rw [e1, e2, Int.sub_emod, hx, Int.mul_emod, hy, ← Int.mul_emod, ← Int.sub_emod]
theorem qPQ {m a : Int} (hm : 0 < m) (hg : Nat.gcd (a % m).toNat m.toNat = 1) : a * qAI m a % m = 1 % m := by
 have h := qPg (m := m) (a := a) (a % m).toNat m.toNat 0 1 (by rw [Int.zero_mul, Int.toNat_of_nonneg Oo]; simp) (by rw [Int.one_mul, Int.toNat_of_nonneg (Int.emod_nonneg _ Oo), Int.emod_emod_of_dvd _ (Int.dvd_refl m)])
 rw [Nat.gcd_comm, hg] at h
 unfold qAI
 rw [Int.mul_emod, Int.emod_emod_of_dvd _ (Int.dvd_refl m), ← Int.mul_emod, Int.mul_comm, h]
 rfl
def qFc (m a : Int) : Bool := Nat.gcd a.toNat m.toNat == 1
theorem qHw {m a : Int} (hm : 0 < m) (ha : 0 ≤ a) (h : qFc m a = true) : a * qAI m a % m = 1 % m := by
 refine qPQ hm ?_
 simp only [qFc, beq_iff_eq] at h
 have : (a % m).toNat = a.toNat % m.toNat := by
  rw [Int.toNat_emod ha Oo]
 rw [this, ← Nat.gcd_rec, Nat.gcd_comm]; exact h
end
section

theorem qOL {a a' b b' : Nat → Int} {k : Nat} (h : ∀ i, i ≤ k → a i * b (k - i) = a' i * b' (k - i)) : conv a b k = conv a' b' k := qC8 fun i hi => h i Oo
theorem qKL {m : Int} {N : Nat} {f : Li} (h0 : at0 f 0 = 0) (cs : Li) {j : Nat} (hj : j < N) :
  at0 (qAH m N f cs) j = (if j = 0 then at0 cs 0 else conv (at0 (qAH m N f cs.tail)) (at0 f) j) % m := by
 have hz : ∀ i, at0 (List.replicate N (0 : Int)) i = 0 := fun i => by
  rw [qDD]
  by_cases h : i < N
  ·rw [qBN h]
  ·rw [qKN Oo]
 cases cs with
 | nil =>
   simp only [qAH, List.tail_nil]; rw [hz]
   by_cases h : j = 0
   ·simp [h, at0]
   ·rw [if_neg h]; unfold conv; rw [qBG (fun i _ => by rw [hz, Int.zero_mul])]; simp
 | cons c cs =>
   simp only [qAH, List.tail_cons]; unfold qCQ qAZ; rw [qDu]; rw [qBN hj]
   by_cases h : j = 0
   ·subst h; rw [if_pos rfl, if_pos rfl, qBN hj]; unfold conv; simp only [qA3, Nat.sub_self, h0, Int.mul_zero]; simp [at0]
   ·rw [if_neg h, if_neg h]
theorem qOk {m : Int} {N N' : Nat} {f f' : Li} (h0 : at0 f 0 = 0) (h0' : at0 f' 0 = 0) : ∀ (j : Nat), j < N → j < N' → (∀ i, i ≤ j → at0 f i = at0 f' i) →
  ∀ cs cs' : Li, (∀ i, i ≤ j → at0 cs i = at0 cs' i) → at0 (qAH m N f cs) j = at0 (qAH m N' f' cs') j := by
 intro j
 induction j using Nat.strongRecOn with
 | _ j ih =>
   intro hN hN' hf cs cs' hc; rw [qKL h0 cs hN, qKL h0' cs' hN']
   by_cases h : j = 0
   ·rw [if_pos h, if_pos h, hc 0 Oo]
   ·rw [if_neg h, if_neg h]; rw [qOL (fun i hi => ?_)]
    by_cases hij : i = j
    ·subst hij; rw [Nat.sub_self, h0, h0', Int.mul_zero, Int.mul_zero]
    ·rw [ih i Oo Oo Oo (fun k hk => hf k Oo) cs.tail cs'.tail (fun k hk => ?_), hf (j - i) Oo]
     have e : ∀ l : Li, at0 l.tail k = at0 l (k + 1) := fun l => by cases l <;> simp [at0, List.getD]
     rw [e, e]; exact hc (k + 1) Oo
theorem qHF {a : Li} {n i : Nat} (h : i < n) : at0 (a.take n) i = at0 a i := by
 unfold at0 List.getD; rw [List.getElem?_take, if_pos h]
theorem qCO {l : Li} {k i : Nat} {x : Int} : at0 (l.set k x) i = if i = k ∧ k < l.length then x else at0 l i := by
 unfold at0 List.getD
 rw [List.getElem?_set]
 by_cases h : k = i
 ·subst h
  by_cases h2 : k < l.length
  ·simp [h2]
  ·rw [if_pos rfl, if_neg h2, if_neg Oo]; rw [List.getElem?_eq_none Oo]
 ·rw [if_neg h, if_neg Oo]

def qAD (m : Int) (n : Nat) (a : Li) : Nat → Li
 | 0 => List.replicate n 0
 | 1 => (List.replicate n 0).set 1 (qAI m (at0 a 1))
 | k + 2 => (qAD m n a (k + 1)).set (k + 2) ((-(at0 (qAH m n (qAD m n a (k + 1)) a) (k + 2)) * qAI m (at0 a 1)) % m)
def qAc (m : Int) (n : Nat) (a : Li) : Li := qAD m n a (n - 1)
theorem qFo (m : Int) (n : Nat) (a : Li) : ∀ k, (qAD m n a k).length = n
 | 0 => by simp [qAD]
 | 1 => by simp [qAD]
 | k + 2 => by simp [qAD, qFo m n a (k + 1)]
theorem qGl (m : Int) (n : Nat) (a : Li) : (qAc m n a).length = n := qFo _ _ _ _
theorem qFz {m : Int} (hm : 0 < m) (n : Nat) (a : Li) : ∀ k, ∀ x ∈ qAD m n a k, 0 ≤ x ∧ x < m
 | 0 => by intro x hx; simp [qAD] at hx; omega
 | 1 => by
   intro x hx; rcases List.mem_or_eq_of_mem_set hx with h | rfl
   ·simp at h; omega
   ·exact qDn hm _
 | k + 2 => by
   intro x hx; rcases List.mem_or_eq_of_mem_set hx with h | rfl
   ·exact qFz hm n a (k + 1) x h
   ·exact qA6 hm
theorem qD2 (m : Int) (n : Nat) (a : Li) : ∀ k, at0 (qAD m n a k) 0 = 0
 | 0 => by unfold qAD; rw [qDD]; cases n <;> simp [mk, at0]
 | 1 => by
   unfold qAD; rw [qCO, if_neg Oo, qDD]; cases n <;> simp [mk, at0]
 | k + 2 => by
   unfold qAD; rw [qCO, if_neg Oo]; exact qD2 m n a (k + 1)
theorem qQw {m : Int} (hm : 0 < m) {n k : Nat} {a : Li} (hk : k + 2 < n) :
  (m - at0 (qAH m (k + 3) (qAD m n a (k + 1)) (a.take (k + 3))) (k + 2)) * qAI m (at0 a 1) % m = (-(at0 (qAH m n (qAD m n a (k + 1)) a) (k + 2)) * qAI m (at0 a 1)) % m := by
 rw [qOk (N' := n) (f' := qAD m n a (k + 1)) (qD2 _ _ _ _) (qD2 _ _ _ _) (k + 2) Oo hk (fun _ _ => rfl) _ a (fun i hi => qHF Oo)]
 have e : ∀ x y : Int, (m - x) * y = -x * y + m * y := fun x y => by grind
 rw [e, Int.add_mul_emod_self_left]
theorem qIB {m x u : Int} : (-(x * u % m)) % m = (-x * u) % m := by
 have : (-(x * u % m)) % m = (-(x * u)) % m := by
  rw [Int.neg_emod_eq_sub_emod, Int.neg_emod_eq_sub_emod, Int.sub_emod, Int.emod_emod_of_dvd _ (Int.dvd_refl m), ← Int.sub_emod]
 rw [this, Int.neg_mul]

def qAq (m : Int) (a : Li) : Nat → Li
 | 0 => [qAI m (at0 a 0)]
 | k + 1 => qAq m a k ++ [(-(conv (at0 a) (at0 (qAq m a k)) (k + 1)) * qAI m (at0 a 0)) % m]
def qCj (m : Int) (n : Nat) (a : Li) : Li := qAq m a (n - 1)
theorem qGd (m : Int) (a : Li) (k : Nat) : (qAq m a k).length = k + 1 := by
 induction k with
 | zero => rfl
 | succ k ih => simp [qAq, ih]
theorem qOB {m : Int} {n : Nat} (a : Li) (hn : 1 ≤ n) : (qCj m n a).length = n := by unfold qCj; rw [qGd]; omega
theorem qLa {m : Int} (hm : 0 < m) (a : Li) (k : Nat) : ∀ x ∈ qAq m a k, 0 ≤ x ∧ x < m := by
 induction k with
 | zero => intro x hx; simp [qAq] at hx; subst hx; exact qDn hm _
 | succ k ih =>
   intro x hx; unfold qAq at hx; rcases List.mem_append.1 hx with h | h
   ·exact ih x h
   ·simp at h; subst h; exact qA6 hm
def invP (m : Int) (n : Nat) (a : Li) (k : Nat) : Li := qAq m a k ++ List.replicate (n - 1 - k) 0
theorem qPW {m : Int} (hm : 0 < m) (n : Nat) (a : Li) (k : Nat) : ∀ x ∈ invP m n a k, 0 ≤ x ∧ x < m := by
 intro x hx
 rcases List.mem_append.1 hx with h | h
 ·exact qLa hm a k x h
 ·simp at h; omega
theorem qPT {m : Int} {n : Nat} {a : Li} : invP m n a (n - 1) = qCj m n a := by simp [invP, qCj]
def qCp (m : Int) (a b : Li) (n i : Nat) : Int := qA3 i (fun i => at0 a (i + 1) * at0 b (n - (i + 1))) % m
theorem qQx {m : Int} {a b : Li} {n i : Nat} : (qCp m a b n i + at0 a (i + 1) * at0 b (n - (i + 1))) % m = qCp m a b n (i + 1) := by
 unfold qCp
 simp only [qA3]
 rw [Int.add_emod, Int.emod_emod_of_dvd _ (Int.dvd_refl m), ← Int.add_emod]
theorem qKd {m : Int} (hm : 0 < m) (a b : Li) (n i : Nat) : 0 ≤ qCp m a b n i ∧ qCp m a b n i < m := qA6 hm
theorem qGu (n : Nat) (f : Nat → Int) : qA3 (n + 1) f = f 0 + qA3 n (fun i => f (i + 1)) := by
 induction n with
 | zero => simp [qA3]
 | succ n ih => rw [show qA3 (n + 1 + 1) f = qA3 (n + 1) f + f (n + 1) from rfl, ih]; simp only [qA3]; omega
theorem qPP {m : Int} {a : Li} {k i : Nat} (hi : i ≤ k + 1) (h : i = k + 1 ∨ a.length ≤ i + 1) :
  (m - qCp m a (qAq m a k) (k + 1) i) * qAI m (at0 a 0) % m = (-(conv (at0 a) (at0 (qAq m a k)) (k + 1)) * qAI m (at0 a 0)) % m := by
 have e : conv (at0 a) (at0 (qAq m a k)) (k + 1) = qA3 i (fun i => at0 a (i + 1) * at0 (qAq m a k) (k + 1 - (i + 1))) := by
  unfold conv; rw [qGu, Nat.sub_zero, qCq (xs := qAq m a k) (by rw [qGd]; omega), Int.mul_zero, Int.zero_add]; obtain ⟨d, hd⟩ : ∃ d, k + 1 = i + d := ⟨k + 1 - i, Oo⟩; rw [show qA3 (k + 1) (fun i => at0 a (i + 1) * at0 (qAq m a k) (k + 1 - (i + 1))) = qA3 (i + d) (fun i => at0 a (i + 1) * at0 (qAq m a k) (k + 1 - (i + 1))) by rw [← hd], qIF]; rw [qBG (n := d) (fun j hj => ?_), Int.add_zero]; rcases h with h | h
  ·omega
  ·rw [qCq (xs := a) Oo, Int.zero_mul]
 rw [e]
 unfold qCp
 generalize qA3 i (fun i => at0 a (i + 1) * at0 (qAq m a k) (k + 1 - (i + 1))) = s
 have e2 : (m - s % m) * qAI m (at0 a 0) = -(s % m) * qAI m (at0 a 0) + m * qAI m (at0 a 0) := by grind
 rw [e2, Int.add_mul_emod_self_left, ← qIB, ← qIB (x := s), Int.mul_emod, Int.emod_emod_of_dvd _ (Int.dvd_refl m), ← Int.mul_emod]

def axT (n : Nat) (a : Li) (k : Int) : Tb := tri n (fun i j => if k = 0 then (if j = 0 then at0 a i else 0) else (if i = 0 then at0 a j else 0))
def qDZ (n : Nat) (a : Li) : Tb := tri n (fun i j => if j = 0 then (if i = 0 then 0 else at0 a i) else (if i = 0 then at0 a j else 0))
theorem qNE {m : Int} {n : Nat} {a : Li} (hr : ∀ x ∈ a, 0 ≤ x ∧ x < m) (hm : 0 < m) (h0 : at0 a 0 = 0) :
  tri n (fun i j => (atT (axT n a 0) i j + atT (axT n a 1) i j) % m) = qDZ n a := qAE fun i j h => by
 unfold axT
 rw [qAi h, qAi h]
 simp only [show ((1 : Int) = 0) = False by simp, if_true, if_false]
 have hi := qAG hm hr i
 have hj := qAG hm hr j
 by_cases hj0 : j = 0
 ·rw [if_pos hj0, if_pos hj0]
  by_cases hi0 : i = 0
  ·rw [if_pos hi0, if_pos hi0, hi0, hj0, h0]; simp
  ·rw [if_neg hi0, if_neg hi0, Int.add_zero]; exact Int.emod_eq_of_lt hi.1 hi.2
 ·rw [if_neg hj0, if_neg hj0]
  by_cases hi0 : i = 0
  ·rw [if_pos hi0, Int.zero_add]; exact Int.emod_eq_of_lt hj.1 hj.2
  ·rw [if_neg hi0]; simp
end
end Go.Proofs.YtfpphfjlpgefaaaGreat
