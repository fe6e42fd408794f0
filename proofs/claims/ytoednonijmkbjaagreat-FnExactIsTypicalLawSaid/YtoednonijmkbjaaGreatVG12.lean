/- Lemmas of G12. -/
import Derived.Test.YtoednonijmkbjaaGreatVG1
/- Inverses modulo a number, by Euclid's algorithm, and common divisors, in plain arithmetic. No program stands here. -/
set_option linter.unusedSimpArgs false
set_option linter.unusedVariables false
namespace Go.Proofs.YtoednonijmkbjaaGreat

def eu (r s : Nat) (x y : Int) : Int := if h : s = 0 then x else eu s (r % s) y (x - ((r / s : Nat) : Int) * y)
termination_by s
decreasing_by exact Nat.mod_lt _ (by omega)
theorem eu_0 (r : Nat) (x y : Int) : eu r 0 x y = x := by rw [eu]; simp
theorem eu_s {r s : Nat} (h : s ≠ 0) (x y : Int) : eu r s x y = eu s (r % s) y (x - ((r / s : Nat) : Int) * y) := by conv => lhs; rw [eu, dif_neg h]
def invM (m a : Int) : Int := eu m.toNat (a % m).toNat 0 1 % m
theorem invM_range {m : Int} (hm : 0 < m) (a : Int) : 0 ≤ invM m a ∧ invM m a < m := mod_lt' hm
structure EuI (m r s : Nat) (x y : Int) : Prop where
  ex : ∃ X Y : Nat, Y * r + X * s = m ∧ ((x = X ∧ y = -(Y : Int)) ∨ (x = -(X : Int) ∧ y = Y))
  lt : s < r
  le : r ≤ m
  bx : -(m : Int) ≤ x ∧ x ≤ m
theorem EuI.start {m a : Nat} (h : a < m) : EuI m m a 0 1 := ⟨⟨0, 1, by simp, .inr ⟨by simp, by simp⟩⟩, h, Nat.le_refl _, by omega⟩
theorem EuI.bounds {m r s : Nat} {x y : Int} (h : EuI m r s x y) : -(m : Int) ≤ y ∧ y ≤ m := by
  obtain ⟨⟨X, Y, hm, hx⟩, hl, hle, -⟩ := h
  have h2 : Y ≤ Y * r := Nat.le_mul_of_pos_right _ (by omega)
  rcases hx with ⟨rfl, rfl⟩ | ⟨rfl, rfl⟩ <;> omega
theorem EuI.step {m r s : Nat} {x y : Int} (h : EuI m r s x y) (hs : s ≠ 0) : EuI m s (r % s) y (x - ((r / s : Nat) : Int) * y) := by
  have hby := h.bounds
  obtain ⟨⟨X, Y, hm, hx⟩, hl, hle, -⟩ := h
  refine ⟨⟨Y, X + r / s * Y, ?_, ?_⟩, Nat.mod_lt _ (by omega), by omega, hby⟩
  · have e := Nat.div_add_mod r s
    have e2 : (X + r / s * Y) * s + Y * (r % s) = X * s + Y * (s * (r / s) + r % s) := by grind
    rw [e2, e, ← hm]; omega
  · rcases hx with ⟨rfl, rfl⟩ | ⟨rfl, rfl⟩
    · exact .inr ⟨rfl, by push_cast; grind⟩
    · exact .inl ⟨rfl, by push_cast; grind⟩
theorem EuI.prod {m r s : Nat} {x y : Int} (h : EuI m r s x y) (hs : s ≠ 0) : -(m : Int) ≤ ((r / s : Nat) : Int) * y ∧ ((r / s : Nat) : Int) * y ≤ m := by
  have h1 := (h.step hs).bounds
  obtain ⟨⟨X, Y, hm, hx⟩, hl, hle, -⟩ := h
  have hn : 0 ≤ ((r / s : Nat) : Int) * (Y : Int) := Int.mul_nonneg (Int.natCast_nonneg _) (Int.natCast_nonneg _)
  generalize ((r / s : Nat) : Int) = q at *
  rcases hx with ⟨rfl, rfl⟩ | ⟨rfl, rfl⟩
  · rw [Int.mul_neg] at h1 ⊢; omega
  · omega
theorem eu_spec {m a : Int} : ∀ (s r : Nat) (x y : Int), x * a % m = (r : Int) % m → y * a % m = (s : Int) % m → eu r s x y * a % m = ((Nat.gcd r s : Nat) : Int) % m := by
  intro s
  induction s using Nat.strongRecOn with
  | _ s ih =>
    intro r x y hx hy
    by_cases hs : s = 0
    · subst hs; rw [eu_0, Nat.gcd_zero_right]; exact hx
    · rw [eu_s hs, Nat.gcd_comm, Nat.gcd_rec, Nat.gcd_comm]
      refine ih (r % s) (Nat.mod_lt _ (by omega)) s y _ hy ?_
      have e := Nat.div_add_mod r s
      have e1 : ((r % s : Nat) : Int) = (r : Int) - ((r / s : Nat) : Int) * (s : Int) := by
        have : ((s * (r / s) + r % s : Nat) : Int) = (r : Int) := by rw [e]
        push_cast at this ⊢; grind
      have e2 : (x - ((r / s : Nat) : Int) * y) * a = x * a - ((r / s : Nat) : Int) * (y * a) := by grind
      rw [e1, e2, Int.sub_emod, hx, Int.mul_emod, hy, ← Int.mul_emod, ← Int.sub_emod]
theorem invM_spec {m a : Int} (hm : 0 < m) (hg : Nat.gcd (a % m).toNat m.toNat = 1) : a * invM m a % m = 1 % m := by
  have h := eu_spec (m := m) (a := a) (a % m).toNat m.toNat 0 1 (by rw [Int.zero_mul, Int.toNat_of_nonneg (by omega)]; simp) (by rw [Int.one_mul, Int.toNat_of_nonneg (Int.emod_nonneg _ (by omega)), Int.emod_emod_of_dvd _ (Int.dvd_refl m)])
  rw [Nat.gcd_comm, hg] at h
  unfold invM
  rw [Int.mul_emod, Int.emod_emod_of_dvd _ (Int.dvd_refl m), ← Int.mul_emod, Int.mul_comm, h]
  rfl
def unitB (m a : Int) : Bool := Nat.gcd a.toNat m.toNat == 1
theorem unitB_inv {m a : Int} (hm : 0 < m) (ha : 0 ≤ a) (h : unitB m a = true) : a * invM m a % m = 1 % m := by
  refine invM_spec hm ?_
  simp only [unitB, beq_iff_eq] at h
  have : (a % m).toNat = a.toNat % m.toNat := by
    rw [Int.toNat_emod ha (by omega)]
  rw [this, ← Nat.gcd_rec, Nat.gcd_comm]; exact h
end Go.Proofs.YtoednonijmkbjaaGreat

/- Inverses and reversions of power series, integrals; units. No program stands here. -/
set_option linter.unusedSimpArgs false
set_option linter.unusedVariables false
namespace Go.Proofs.YtoednonijmkbjaaGreat

theorem at0_take {a : List Int} {n i : Nat} (h : i < n) : at0 (a.take n) i = at0 a i := by
  unfold at0 List.getD; rw [List.getElem?_take, if_pos h]
theorem at0_set {l : List Int} {k i : Nat} {x : Int} : at0 (l.set k x) i = if i = k ∧ k < l.length then x else at0 l i := by
  unfold at0 List.getD
  rw [List.getElem?_set]
  by_cases h : k = i
  · subst h
    by_cases h2 : k < l.length
    · simp [h2]
    · rw [if_pos rfl, if_neg h2, if_neg (by omega)]
      rw [List.getElem?_eq_none (by omega)]
  · rw [if_neg h, if_neg (by omega)]

def revTo (m : Int) (n : Nat) (a : List Int) : Nat → List Int
  | 0 => List.replicate n 0
  | 1 => (List.replicate n 0).set 1 (invM m (at0 a 1))
  | k + 2 => (revTo m n a (k + 1)).set (k + 2) ((-(at0 (horn m n (revTo m n a (k + 1)) a) (k + 2)) * invM m (at0 a 1)) % m)
def revL (m : Int) (n : Nat) (a : List Int) : List Int := revTo m n a (n - 1)
theorem revTo_len (m : Int) (n : Nat) (a : List Int) : ∀ k, (revTo m n a k).length = n
  | 0 => by simp [revTo]
  | 1 => by simp [revTo]
  | k + 2 => by simp [revTo, revTo_len m n a (k + 1)]
theorem revL_len (m : Int) (n : Nat) (a : List Int) : (revL m n a).length = n := revTo_len _ _ _ _
theorem revTo_range {m : Int} (hm : 0 < m) (n : Nat) (a : List Int) : ∀ k, ∀ x ∈ revTo m n a k, 0 ≤ x ∧ x < m
  | 0 => by intro x hx; simp [revTo] at hx; omega
  | 1 => by
    intro x hx
    rcases List.mem_or_eq_of_mem_set hx with h | rfl
    · simp at h; omega
    · exact invM_range hm _
  | k + 2 => by
    intro x hx
    rcases List.mem_or_eq_of_mem_set hx with h | rfl
    · exact revTo_range hm n a (k + 1) x h
    · exact mod_lt' hm
theorem revTo_0 (m : Int) (n : Nat) (a : List Int) : ∀ k, at0 (revTo m n a k) 0 = 0
  | 0 => by unfold revTo; rw [mk_zero]; cases n <;> simp [mk, at0]
  | 1 => by
    unfold revTo; rw [at0_set, if_neg (by omega), mk_zero]; cases n <;> simp [mk, at0]
  | k + 2 => by
    unfold revTo; rw [at0_set, if_neg (by omega)]; exact revTo_0 m n a (k + 1)
theorem neg_mul_mod {m x u : Int} : (-(x * u % m)) % m = (-x * u) % m := by
  have : (-(x * u % m)) % m = (-(x * u)) % m := by
    rw [Int.neg_emod_eq_sub_emod, Int.neg_emod_eq_sub_emod, Int.sub_emod, Int.emod_emod_of_dvd _ (Int.dvd_refl m), ← Int.sub_emod]
  rw [this, Int.neg_mul]

theorem sumN_first (n : Nat) (f : Nat → Int) : sumN (n + 1) f = f 0 + sumN n (fun i => f (i + 1)) := by
  induction n with
  | zero => simp [sumN]
  | succ n ih => rw [show sumN (n + 1 + 1) f = sumN (n + 1) f + f (n + 1) from rfl, ih]; simp only [sumN]; omega
def axT (n : Nat) (a : List Int) (k : Int) : List (List Int) := tri n (fun i j => if k = 0 then (if j = 0 then at0 a i else 0) else (if i = 0 then at0 a j else 0))
def twoT (n : Nat) (a : List Int) : List (List Int) := tri n (fun i j => if j = 0 then (if i = 0 then 0 else at0 a i) else (if i = 0 then at0 a j else 0))
theorem axT_add {m : Int} {n : Nat} {a : List Int} (hr : ∀ x ∈ a, 0 ≤ x ∧ x < m) (hm : 0 < m) (h0 : at0 a 0 = 0) :
    tri n (fun i j => (atT (axT n a 0) i j + atT (axT n a 1) i j) % m) = twoT n a := tri_ext fun i j h => by
  unfold axT
  rw [atT_tri h, atT_tri h]
  simp only [show ((1 : Int) = 0) = False by simp, if_true, if_false]
  have hi := at0_range hm hr i
  have hj := at0_range hm hr j
  by_cases hj0 : j = 0
  · rw [if_pos hj0, if_pos hj0]
    by_cases hi0 : i = 0
    · rw [if_pos hi0, if_pos hi0, hi0, hj0, h0]; simp
    · rw [if_neg hi0, if_neg hi0, Int.add_zero]; exact Int.emod_eq_of_lt hi.1 hi.2
  · rw [if_neg hj0, if_neg hj0]
    by_cases hi0 : i = 0
    · rw [if_pos hi0, Int.zero_add]; exact Int.emod_eq_of_lt hj.1 hj.2
    · rw [if_neg hi0]; simp
end Go.Proofs.YtoednonijmkbjaaGreat
