/- Inverses modulo a number, by Euclid's algorithm, and common divisors: the program and the reference. -/
import Derived.Test.YtbdlofhphbnlbaaArith
set_option linter.unusedSimpArgs false
set_option linter.unusedVariables false
namespace Go.Proofs.Ytbdlofhphbnlbaa
open Go.RowKit

/-- Euclid's algorithm, with the coefficients at a. -/
def eu (r s : Nat) (x y : Int) : Int := if h : s = 0 then x else eu s (r % s) y (x - ((r / s : Nat) : Int) * y)
termination_by s
decreasing_by exact Nat.mod_lt _ (by omega)
theorem eu_0 (r : Nat) (x y : Int) : eu r 0 x y = x := by rw [eu]; simp
theorem eu_s {r s : Nat} (h : s ≠ 0) (x y : Int) : eu r s x y = eu s (r % s) y (x - ((r / s : Nat) : Int) * y) := by conv => lhs; rw [eu, dif_neg h]
/-- The inverse of a modulo m. -/
def invM (m a : Int) : Int := eu m.toNat (a % m).toNat 0 1 % m
theorem invM_range {m : Int} (hm : 0 < m) (a : Int) : 0 ≤ invM m a ∧ invM m a < m := mod_lt' hm
/-- What the algorithm keeps: its sizes. -/
structure EuI (m r s : Nat) (x y : Int) : Prop where
  ex : ∃ X Y : Nat, Y * r + X * s = m ∧ ((x = X ∧ y = -(Y : Int)) ∨ (x = -(X : Int) ∧ y = Y))
  lt : s < r
  le : r ≤ m
  bx : -(m : Int) ≤ x ∧ x ≤ m
theorem EuI.start {m a : Nat} (h : a < m) : EuI m m a 0 1 := ⟨⟨0, 1, by simp, .inr ⟨by simp, by simp⟩⟩, h, Nat.le_refl _, by omega⟩
theorem EuI.bounds {m r s : Nat} {x y : Int} (h : EuI m r s x y) : -(m : Int) ≤ y ∧ y ≤ m := by
  obtain ⟨⟨X, Y, hm, hx⟩, hl, hle, -⟩ := h
  have h2 : Y ≤ Y * r := Nat.le_mul_of_pos_right _ (by omega)
  rcases hx with ⟨rfl, rfl⟩ | ⟨rfl, rfl⟩ <;> omega
theorem EuI.step {m r s : Nat} {x y : Int} (h : EuI m r s x y) (hs : s ≠ 0) : EuI m s (r % s) y (x - ((r / s : Nat) : Int) * y) := by
  have hby := h.bounds
  obtain ⟨⟨X, Y, hm, hx⟩, hl, hle, -⟩ := h
  refine ⟨⟨Y, X + r / s * Y, ?_, ?_⟩, Nat.mod_lt _ (by omega), by omega, hby⟩
  · have e := Nat.div_add_mod r s
    have e2 : (X + r / s * Y) * s + Y * (r % s) = X * s + Y * (s * (r / s) + r % s) := by grind
    rw [e2, e, ← hm]; omega
  · rcases hx with ⟨rfl, rfl⟩ | ⟨rfl, rfl⟩
    · exact .inr ⟨rfl, by push_cast; grind⟩
    · exact .inl ⟨rfl, by push_cast; grind⟩
theorem EuI.prod {m r s : Nat} {x y : Int} (h : EuI m r s x y) (hs : s ≠ 0) : -(m : Int) ≤ ((r / s : Nat) : Int) * y ∧ ((r / s : Nat) : Int) * y ≤ m := by
  have h1 := (h.step hs).bounds
  obtain ⟨⟨X, Y, hm, hx⟩, hl, hle, -⟩ := h
  have hn : 0 ≤ ((r / s : Nat) : Int) * (Y : Int) := Int.mul_nonneg (Int.natCast_nonneg _) (Int.natCast_nonneg _)
  generalize ((r / s : Nat) : Int) = q at *
  rcases hx with ⟨rfl, rfl⟩ | ⟨rfl, rfl⟩
  · rw [Int.mul_neg] at h1 ⊢; omega
  · omega
/-- What it answers: a combination of m and a. -/
theorem eu_spec {m a : Int} : ∀ (s r : Nat) (x y : Int), x * a % m = (r : Int) % m → y * a % m = (s : Int) % m → eu r s x y * a % m = ((Nat.gcd r s : Nat) : Int) % m := by
  intro s
  induction s using Nat.strongRecOn with
  | _ s ih =>
    intro r x y hx hy
    by_cases hs : s = 0
    · subst hs; rw [eu_0, Nat.gcd_zero_right]; exact hx
    · rw [eu_s hs, Nat.gcd_comm, Nat.gcd_rec, Nat.gcd_comm]
      refine ih (r % s) (Nat.mod_lt _ (by omega)) s y _ hy ?_
      have e := Nat.div_add_mod r s
      have e1 : ((r % s : Nat) : Int) = (r : Int) - ((r / s : Nat) : Int) * (s : Int) := by
        have : ((s * (r / s) + r % s : Nat) : Int) = (r : Int) := by rw [e]
        push_cast at this ⊢; grind
      have e2 : (x - ((r / s : Nat) : Int) * y) * a = x * a - ((r / s : Nat) : Int) * (y * a) := by grind
      rw [e1, e2, Int.sub_emod, hx, Int.mul_emod, hy, ← Int.mul_emod, ← Int.sub_emod]
theorem invM_spec {m a : Int} (hm : 0 < m) (hg : Nat.gcd (a % m).toNat m.toNat = 1) : a * invM m a % m = 1 % m := by
  have h := eu_spec (m := m) (a := a) (a % m).toNat m.toNat 0 1 (by rw [Int.zero_mul, Int.toNat_of_nonneg (by omega)]; simp) (by rw [Int.one_mul, Int.toNat_of_nonneg (Int.emod_nonneg _ (by omega)), Int.emod_emod_of_dvd _ (Int.dvd_refl m)])
  rw [Nat.gcd_comm, hg] at h
  unfold invM
  rw [Int.mul_emod, Int.emod_emod_of_dvd _ (Int.dvd_refl m), ← Int.mul_emod, Int.mul_comm, h]
  rfl
/-- Inverses are unique. -/
theorem inv_unique {m a y z : Int} (hy : a * y % m = 1 % m) (hz : a * z % m = 1 % m) : y % m = z % m := by
  have h1 : y * (a * z) % m = y % m := by rw [Int.mul_emod, hz, ← Int.mul_emod, Int.mul_one]
  have h2 : z * (a * y) % m = z % m := by rw [Int.mul_emod, hy, ← Int.mul_emod, Int.mul_one]
  rw [← h1, ← h2]
  congr 1
  grind
def unitB (m a : Int) : Bool := Nat.gcd a.toNat m.toNat == 1
theorem unitB_inv {m a : Int} (hm : 0 < m) (ha : 0 ≤ a) (h : unitB m a = true) : a * invM m a % m = 1 % m := by
  refine invM_spec hm ?_
  simp only [unitB, beq_iff_eq] at h
  have : (a % m).toNat = a.toNat % m.toNat := by
    rw [Int.toNat_emod ha (by omega)]
  rw [this, ← Nat.gcd_rec, Nat.gcd_comm]; exact h


set_option maxHeartbeats 1000000 in
theorem inverse_c (m a : Int) (w : World) (hm : 2 ≤ m) (hm' : m ≤ 1000000000000) (ha : -9000000000000000000 ≤ a) (ha' : a ≤ 9000000000000000000) :
    Calls Try.prog 82 #[.int .i64 m, .int .i64 a] w fun e w' => e = .returned (.int .i64 (invM m a)) ∧ w = w' := by
  have hA := mod_lt' (a := a) (show 0 < m by omega)
  have hst := EuI.start (m := m.toNat) (a := (a % m).toNat) (by omega)
  go_enter Try.func82, Try.ntmps82
  go_wp2_with (go_at_call 104; refine (mod_c _ _ _ (by omega) (by omega) (by omega) (by omega)).mono ?_; rintro e w' ⟨rfl, rfl⟩)
  go_loop [5, 6, 7, 8] (fun x y r s => ∃ (R S : Nat) (X Y : Int), r = .int .i64 R ∧ s = .int .i64 S ∧ x = .int .i64 X ∧ y = .int .i64 Y ∧ EuI m.toNat R S X Y ∧ Hid (eu R S X Y = eu m.toNat (a % m).toNat 0 1)) (fun x y r s => (intOf s).toNat)
  case atStart => exact ⟨m.toNat, (a % m).toNat, 0, 1, by rw [Int.toNat_of_nonneg (by omega)], by rw [Int.toNat_of_nonneg (by omega)], rfl, rfl, hst, Lib.hid rfl⟩
  case round =>
    obtain ⟨R, S, X, Y, rfl, rfl, rfl, rfl, hE, HE⟩ := hrel
    have hb := hE.bounds
    have hle := hE.le
    have hlt := hE.lt
    by_cases hs : S = 0
    · subst hs
      have HR := Lib.hid (show X % m = invM m a by unfold invM; rw [← HE.out, eu_0])
      have hX := hE.bx
      go_wp2_with (go_at_call 104; refine (mod_c _ _ _ (by omega) (by omega) (by omega) (by omega)).mono ?_; rintro e w' ⟨rfl, rfl⟩)
      go_ret
      exact ⟨by rw [← HR.out]; rfl, rfl⟩
    · have hp := hE.prod hs
      have hb2 := (hE.step hs).bounds
      have hx := hE.bx
      have hq0 : (0 : Int) ≤ ((R / S : Nat) : Int) := Int.natCast_nonneg _
      have hqn : R / S ≤ m.toNat := Nat.le_trans (Nat.div_le_self R S) hle
      have hqm : ((R / S : Nat) : Int) ≤ m := by
        generalize R / S = Q at hqn
        omega
      have e1 : (R : Int).tdiv (S : Int) = ((R / S : Nat) : Int) := by rw [Int.tdiv_eq_ediv_of_nonneg (by omega)]; rfl
      have e2 : (R : Int) - ((R / S : Nat) : Int) * (S : Int) = ((R % S : Nat) : Int) := by
        have e := Nat.div_add_mod R S
        have : ((S * (R / S) + R % S : Nat) : Int) = (R : Int) := by rw [e]
        push_cast at this ⊢; grind
      have e3 : ((R / S : Nat) : Int) * (S : Int) ≤ (R : Int) := by
        have : (0 : Int) ≤ ((R % S : Nat) : Int) := by omega
        omega
      have e4 : 0 ≤ ((R / S : Nat) : Int) * (S : Int) := Int.mul_nonneg hq0 (by omega)
      have s0 : ((S : Int) == 0) = false := by simp; omega
      have s1 : ¬ (S : Int) = 0 := by omega
      have s2 : (0 : Int) < (S : Int) := by omega
      have hst2 := hE.step hs
      have HE2 := Lib.hid (show eu S (R % S) Y (X - ((R / S : Nat) : Int) * Y) = eu m.toNat (a % m).toNat 0 1 by rw [← eu_s hs]; exact HE.out)
      have hml := Nat.mod_lt R (show 0 < S by omega)
      clear hs
      generalize ((R / S : Nat) : Int) = q at *
      go_wp2
      exact ⟨⟨S, R % S, Y, X - q * Y, rfl, by rw [← e2]; go_num, rfl, by go_num, hst2, HE2⟩, by simp [intOf]; omega⟩

end Go.Proofs.Ytbdlofhphbnlbaa
