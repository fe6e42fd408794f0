/- Lemmas of Eu. -/
import Derived.Test.YtoednonijmkbjaaQG1
set_option linter.unusedSimpArgs false
set_option linter.unusedVariables false
namespace Go.Proofs.Ytoednonijmkbjaa

def eu (r s : Nat) (x y : Int) : Int := if h : s = 0 then x else eu s (r % s) y (x - ((r / s : Nat) : Int) * y)
termination_by s
decreasing_by exact Nat.mod_lt _ (by omega)
theorem eu_0 (r : Nat) (x y : Int) : eu r 0 x y = x := by rw [eu]; simp
theorem eu_s {r s : Nat} (h : s ≠ 0) (x y : Int) : eu r s x y = eu s (r % s) y (x - ((r / s : Nat) : Int) * y) := by conv => lhs; rw [eu, dif_neg h]
def invM (m a : Int) : Int := eu m.toNat (a % m).toNat 0 1 % m
theorem invM_range {m : Int} (hm : 0 < m) (a : Int) : 0 ≤ invM m a ∧ invM m a < m := mod_lt' hm
structure EuI (m r s : Nat) (x y : Int) : Prop where
  ex : ∃ X Y : Nat, Y * r + X * s = m ∧ ((x = X ∧ y = -(Y : Int)) ∨ (x = -(X : Int) ∧ y = Y))
  lt : s < r
  le : r ≤ m
  bx : -(m : Int) ≤ x ∧ x ≤ m
theorem EuI.start {m a : Nat} (h : a < m) : EuI m m a 0 1 := ⟨⟨0, 1, by simp, .inr ⟨by simp, by simp⟩⟩, h, Nat.le_refl _, by omega⟩
theorem EuI.bounds {m r s : Nat} {x y : Int} (h : EuI m r s x y) : -(m : Int) ≤ y ∧ y ≤ m := by
  obtain ⟨⟨X, Y, hm, hx⟩, hl, hle, -⟩ := h
  have h2 : Y ≤ Y * r := Nat.le_mul_of_pos_right _ (by omega)
  rcases hx with ⟨rfl, rfl⟩ | ⟨rfl, rfl⟩ <;> omega
theorem EuI.step {m r s : Nat} {x y : Int} (h : EuI m r s x y) (hs : s ≠ 0) : EuI m s (r % s) y (x - ((r / s : Nat) : Int) * y) := by
  have hby := h.bounds
  obtain ⟨⟨X, Y, hm, hx⟩, hl, hle, -⟩ := h
  refine ⟨⟨Y, X + r / s * Y, ?_, ?_⟩, Nat.mod_lt _ (by omega), by omega, hby⟩
  · have e := Nat.div_add_mod r s
    have e2 : (X + r / s * Y) * s + Y * (r % s) = X * s + Y * (s * (r / s) + r % s) := by grind
    rw [e2, e, ← hm]; omega
  · rcases hx with ⟨rfl, rfl⟩ | ⟨rfl, rfl⟩
    · exact .inr ⟨rfl, by push_cast; grind⟩
    · exact .inl ⟨rfl, by push_cast; grind⟩
theorem EuI.prod {m r s : Nat} {x y : Int} (h : EuI m r s x y) (hs : s ≠ 0) : -(m : Int) ≤ ((r / s : Nat) : Int) * y ∧ ((r / s : Nat) : Int) * y ≤ m := by
  have h1 := (h.step hs).bounds
  obtain ⟨⟨X, Y, hm, hx⟩, hl, hle, -⟩ := h
  have hn : 0 ≤ ((r / s : Nat) : Int) * (Y : Int) := Int.mul_nonneg (Int.natCast_nonneg _) (Int.natCast_nonneg _)
  generalize ((r / s : Nat) : Int) = q at *
  rcases hx with ⟨rfl, rfl⟩ | ⟨rfl, rfl⟩
  · rw [Int.mul_neg] at h1 ⊢; omega
  · omega
theorem eu_spec {m a : Int} : ∀ (s r : Nat) (x y : Int), x * a % m = (r : Int) % m → y * a % m = (s : Int) % m → eu r s x y * a % m = ((Nat.gcd r s : Nat) : Int) % m := by
  intro s
  induction s using Nat.strongRecOn with
  | _ s ih =>
    intro r x y hx hy
    by_cases hs : s = 0
    · subst hs; rw [eu_0, Nat.gcd_zero_right]; exact hx
    · rw [eu_s hs, Nat.gcd_comm, Nat.gcd_rec, Nat.gcd_comm]
      refine ih (r % s) (Nat.mod_lt _ (by omega)) s y _ hy ?_
      have e := Nat.div_add_mod r s
      have e1 : ((r % s : Nat) : Int) = (r : Int) - ((r / s : Nat) : Int) * (s : Int) := by
        have : ((s * (r / s) + r % s : Nat) : Int) = (r : Int) := by rw [e]
        push_cast at this ⊢; grind
      have e2 : (x - ((r / s : Nat) : Int) * y) * a = x * a - ((r / s : Nat) : Int) * (y * a) := by grind
      rw [e1, e2, Int.sub_emod, hx, Int.mul_emod, hy, ← Int.mul_emod, ← Int.sub_emod]
theorem invM_spec {m a : Int} (hm : 0 < m) (hg : Nat.gcd (a % m).toNat m.toNat = 1) : a * invM m a % m = 1 % m := by
  have h := eu_spec (m := m) (a := a) (a % m).toNat m.toNat 0 1 (by rw [Int.zero_mul, Int.toNat_of_nonneg (by omega)]; simp) (by rw [Int.one_mul, Int.toNat_of_nonneg (Int.emod_nonneg _ (by omega)), Int.emod_emod_of_dvd _ (Int.dvd_refl m)])
  rw [Nat.gcd_comm, hg] at h
  unfold invM
  rw [Int.mul_emod, Int.emod_emod_of_dvd _ (Int.dvd_refl m), ← Int.mul_emod, Int.mul_comm, h]
  rfl
def unitB (m a : Int) : Bool := Nat.gcd a.toNat m.toNat == 1
theorem unitB_inv {m a : Int} (hm : 0 < m) (ha : 0 ≤ a) (h : unitB m a = true) : a * invM m a % m = 1 % m := by
  refine invM_spec hm ?_
  simp only [unitB, beq_iff_eq] at h
  have : (a % m).toNat = a.toNat % m.toNat := by
    rw [Int.toNat_emod ha (by omega)]
  rw [this, ← Nat.gcd_rec, Nat.gcd_comm]; exact h
end Go.Proofs.Ytoednonijmkbjaa
