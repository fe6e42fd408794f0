/- Lemmas of WittR. -/
import Derived.Test.YtcjinlfgeljmkaaWSWittQ
import Derived.Test.YtcjinlfgeljmkaaWSInv
set_option linter.unusedSimpArgs false
set_option linter.unusedVariables false
namespace Go.Proofs.Ytcjinlfgeljmkaa
open Go.RowKit

theorem P4.coprime {p : Nat} (hp : P4 p) {r : Nat} (h : r % p ≠ 0) : Nat.gcd r p = 1 := by
  rw [Nat.gcd_comm, Nat.gcd_rec]
  have hl : r % p < p := Nat.mod_lt _ (by rcases hp with rfl | rfl | rfl | rfl <;> decide)
  generalize r % p = d at h hl
  rcases hp with rfl | rfl | rfl | rfl
  · have : d = 1 := by omega
    subst this; rfl
  · have : d = 1 ∨ d = 2 := by omega
    rcases this with rfl | rfl <;> rfl
  · have : d = 1 ∨ d = 2 ∨ d = 3 ∨ d = 4 := by omega
    rcases this with rfl | rfl | rfl | rfl <;> rfl
  · have : d = 1 ∨ d = 2 ∨ d = 3 ∨ d = 4 ∨ d = 5 ∨ d = 6 := by omega
    rcases this with rfl | rfl | rfl | rfl | rfl | rfl <;> rfl
theorem P4.fermat1 {p : Nat} (hp : P4 p) {c : Int} (h : c % (p : Int) ≠ 0) : c ^ (p - 1) % (p : Int) = 1 % (p : Int) := by
  rw [← pow_mod]
  have h2 : 0 ≤ c % (p : Int) := Int.emod_nonneg _ (by rcases hp with rfl | rfl | rfl | rfl <;> decide)
  have h3 : c % (p : Int) < p := Int.emod_lt_of_pos _ (by rcases hp with rfl | rfl | rfl | rfl <;> decide)
  generalize c % (p : Int) = d at h h2 h3
  rcases hp with rfl | rfl | rfl | rfl
  · have : d = 1 := by omega
    subst this; rfl
  · have : d = 1 ∨ d = 2 := by omega
    rcases this with rfl | rfl <;> rfl
  · have : d = 1 ∨ d = 2 ∨ d = 3 ∨ d = 4 := by omega
    rcases this with rfl | rfl | rfl | rfl <;> rfl
  · have : d = 1 ∨ d = 2 ∨ d = 3 ∨ d = 4 ∨ d = 5 ∨ d = 6 := by omega
    rcases this with rfl | rfl | rfl | rfl | rfl | rfl <;> rfl
theorem euler {p : Nat} (hp : P4 p) {c : Int} (h : c % (p : Int) ≠ 0) (k : Nat) : c ^ ((p - 1) * p ^ k) % (p : Int) ^ (k + 1) = 1 % (p : Int) ^ (k + 1) := by
  rw [Int.pow_mul, lift_pow hp (hp.fermat1 h) k, Int.one_pow]
def invE (p n : Nat) : Nat := (p - 1) * p ^ (n - 1) - 1
theorem inv_pow {p : Nat} (hp : P4 p) {n : Nat} (hn : 1 ≤ n) {r : Int} (hr : r % (p : Int) ≠ 0) : invM ((p : Int) ^ n) (r % (p : Int) ^ n) % (p : Int) ^ n = r ^ invE p n % (p : Int) ^ n := by
  obtain ⟨k, rfl⟩ : ∃ k, n = k + 1 := ⟨n - 1, by omega⟩
  have hp1 : 1 ≤ (p : Int) := hp.bounds.1
  have hpos := pow_pos' hp1 (k + 1)
  have hR := mod_lt' (a := r) (show 0 < (p : Int) ^ (k + 1) by omega)
  have hdv : (p : Int) ∣ (p : Int) ^ (k + 1) := ⟨(p : Int) ^ k, by rw [Int.pow_succ, Int.mul_comm]⟩
  have hR2 : (r % (p : Int) ^ (k + 1)) % (p : Int) ≠ 0 := by rw [Int.emod_emod_of_dvd _ hdv]; exact hr
  refine inv_unique (a := r % (p : Int) ^ (k + 1)) (invM_spec (by omega) ?_) ?_
  · rw [Int.emod_emod_of_dvd _ (Int.dvd_refl _)]
    have e : ((p : Int) ^ (k + 1)).toNat = p ^ (k + 1) := by
      rw [show (p : Int) ^ (k + 1) = ((p ^ (k + 1) : Nat) : Int) by push_cast; rfl, Int.toNat_natCast]
    rw [e]
    refine Nat.Coprime.pow_right _ (hp.coprime ?_)
    intro h0
    apply hR2
    have : ((r % (p : Int) ^ (k + 1)).toNat : Int) % (p : Int) = 0 := by
      rw [← Int.natCast_emod, h0]; rfl
    rwa [Int.toNat_of_nonneg hR.1] at this
  · have hone : 1 ≤ (p - 1) * p ^ k := by
      have h1 : 1 ≤ p - 1 := by rcases hp with rfl | rfl | rfl | rfl <;> decide
      have h2 : 1 ≤ p ^ k := Nat.pos_of_ne_zero (by have := pow_pos' hp1 k; intro h; rw [show (p : Int) ^ k = ((p ^ k : Nat) : Int) by push_cast; rfl, h] at this; simp at this)
      exact Nat.mul_le_mul h1 h2
    have e2 : (r % (p : Int) ^ (k + 1)) * r ^ invE p (k + 1) % (p : Int) ^ (k + 1) = r ^ ((p - 1) * p ^ k) % (p : Int) ^ (k + 1) := by
      rw [Int.mul_emod, Int.emod_emod_of_dvd _ (Int.dvd_refl _), ← Int.mul_emod]
      congr 1
      unfold invE
      rw [show k + 1 - 1 = k by omega]
      obtain ⟨q, hq⟩ : ∃ q, (p - 1) * p ^ k = q + 1 := ⟨(p - 1) * p ^ k - 1, by omega⟩
      rw [hq, show q + 1 - 1 = q by omega, Int.pow_succ, Int.mul_comm]
    rw [e2, euler hp hr]
theorem gh_unit {p : Nat} (hp : P4 p) {x : Nat → Int} (k : Nat) (h : x 0 % (p : Int) ≠ 0) : gh p x k % (p : Int) ≠ 0 := by
  have e : gh p x k = x 0 ^ (p ^ k) + p * sumN k (fun i => (p : Int) ^ i * x (i + 1) ^ (p ^ (k - (i + 1)))) := by
    unfold gh
    rw [sumN_first, ← sumN_mulc]
    congr 1
    · simp
    · exact sumN_congr fun i _ => by rw [Int.pow_succ]; grind
  rw [e, Int.add_mul_emod_self_left, fermat_pow hp]
  exact h
def invB (p m : Int) (xs : List Int) : Bool := (m == p) && !(at0 xs 0 == 0)
def invR (p m : Int) (xs : List Int) : WR := if wittB p m xs then (if invB p m xs then ⟨p, p, powWL p.toNat p xs (invE p.toNat xs.length), 0⟩ else WR.bad 5) else WR.bad 1
theorem inv_res {p : Nat} (hp : P4 p) {xs : List Int} (hn : 1 ≤ xs.length) (h0 : at0 xs 0 % (p : Int) ≠ 0) :
    ofRes p xs.length xs.length (invM ((p : Int) ^ xs.length) (gh p (at0 xs) (xs.length - 1) % (p : Int) ^ xs.length)) = powWL p p xs (invE p xs.length) :=
  ofRes_FL hp (by omega) (pow_ex hp _ _ _) (inv_pow hp hn (gh_unit hp _ h0))
end Go.Proofs.Ytcjinlfgeljmkaa
