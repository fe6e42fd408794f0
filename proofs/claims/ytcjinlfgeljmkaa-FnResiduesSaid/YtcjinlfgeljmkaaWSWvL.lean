/- Lemmas of WvL. -/
import Derived.Test.YtcjinlfgeljmkaaWSWittR
import Derived.Test.YtcjinlfgeljmkaaWSWittG
set_option linter.unusedSimpArgs false
set_option linter.unusedVariables false
namespace Go.Proofs.Ytcjinlfgeljmkaa
open Go.RowKit

def TG (p n : Nat) (G : Nat → Int) : Prop := ∃ z, ∀ k, k < n → gh p z k = G k
theorem TG.gh (p n : Nat) (x : Nat → Int) : TG p n (gh p x) := ⟨x, fun _ _ => rfl⟩
theorem TG.op {p n : Nat} (hp : P4 p) {G H : Nat → Int} (hG : TG p n G) (hH : TG p n H) (t : Bool) : TG p n (fun k => if t then G k * H k else G k + H k) := by
  obtain ⟨x, hx⟩ := hG
  obtain ⟨y, hy⟩ := hH
  obtain ⟨z, hz⟩ := opG_ex hp x y t n
  exact ⟨z, fun k hk => by rw [hz k hk, opG, hx k hk, hy k hk]⟩
theorem TG.neg {p n : Nat} (hp : P4 p) {G : Nat → Int} (hG : TG p n G) : TG p n (fun k => - G k) := by
  obtain ⟨x, hx⟩ := hG
  obtain ⟨z, hz⟩ := neg_ex hp x n
  exact ⟨z, fun k hk => by rw [hz k hk, hx k hk]⟩
theorem at_FL {p n : Nat} (hp : P4 p) {M : Int} (hM : 0 < M) {G : Nat → Int} {z : Nat → Int} (hz : ∀ k, k < n → gh p z k = G k) {i : Nat} (hi : i < n) : at0 (FL p M n G) i % M = z i % M := by
  rw [FL_at hp hM hz hi, Int.emod_emod_of_dvd _ (Int.dvd_refl M)]
section rings
variable {p n : Nat} (hp : P4 p) {M : Int} (hM : 0 < M) {xs ys us : List Int} (lx : xs.length = n) (ly : ys.length = n) (lu : us.length = n)
  (hx : ∀ x ∈ xs, 0 ≤ x ∧ x < M) (hy : ∀ x ∈ ys, 0 ≤ x ∧ x < M) (hu : ∀ x ∈ us, 0 ≤ x ∧ x < M)
include hp hM lx ly lu hx hy hu
end rings
section rings2
variable {p n : Nat} (hp : P4 p) {M : Int} (hM : 0 < M) {xs ys : List Int} (lx : xs.length = n) (ly : ys.length = n)
  (hx : ∀ x ∈ xs, 0 ≤ x ∧ x < M) (hy : ∀ x ∈ ys, 0 ≤ x ∧ x < M)
include hp hM lx ly hx hy
end rings2

theorem res_FL {p n : Nat} (hp : P4 p) (hn : 0 < n) {G : Nat → Int} (hG : TG p n G) : gh p (at0 (FL p (p : Int) n G)) (n - 1) % (p : Int) ^ n = G (n - 1) % (p : Int) ^ n := by
  have hp0 : 0 < (p : Int) := by rcases hp with rfl | rfl | rfl | rfl <;> decide
  obtain ⟨z, hz⟩ := hG
  rw [← hz _ (by omega)]
  unfold gh
  refine sumN_mod fun i hi => ?_
  have e : (p : Int) ^ n = (p : Int) ^ i * (p : Int) ^ (n - 1 - i + 1) := by rw [← Int.pow_add]; congr 1; omega
  have hpi : 0 < (p : Int) ^ i := by have := pow_pos' (p := (p : Int)) (by omega) i; omega
  rw [e, Int.mul_emod_mul_of_pos _ _ hpi, Int.mul_emod_mul_of_pos _ _ hpi, lift_pow hp (at_FL hp hp0 hz (by omega))]
def resV (p : Nat) (xs : List Int) : Int := gh p (at0 xs) (xs.length - 1) % (p : Int) ^ xs.length
theorem res_op {p n : Nat} (hp : P4 p) (hn : 0 < n) {xs ys : List Int} (lx : xs.length = n) (ly : ys.length = n) (t : Bool) :
    resV p (opL p (p : Int) xs ys t) = if t then resV p xs * resV p ys % (p : Int) ^ n else (resV p xs + resV p ys) % (p : Int) ^ n := by
  unfold resV opL
  rw [FL_len, lx, ly, res_FL hp hn (opG_ex hp _ _ t n)]
  cases t
  · simp [opG, Int.add_emod]
  · simp [opG, Int.mul_emod]
theorem res_of {p n : Nat} (hp : P4 p) (hn : 0 < n) {c : Int} (hc : 0 ≤ c ∧ c < (p : Int) ^ n) : resV p (FL p (p : Int) n (fun _ => c)) = c := by
  unfold resV
  rw [FL_len, res_FL hp hn (const_ex hp c n)]
  exact Int.emod_eq_of_lt hc.1 hc.2
theorem res_first {p n : Nat} (hp : P4 p) {xs : List Int} (lx : xs.length = n + 1) : resV p xs % (p : Int) = at0 xs 0 % (p : Int) := by
  unfold resV
  rw [lx, show n + 1 - 1 = n by omega, Int.emod_emod_of_dvd _ ⟨(p : Int) ^ n, by rw [Int.pow_succ, Int.mul_comm]⟩]
  have e : gh p (at0 xs) n = at0 xs 0 ^ (p ^ n) + p * sumN n (fun i => (p : Int) ^ i * at0 xs (i + 1) ^ (p ^ (n - (i + 1)))) := by
    unfold gh
    rw [sumN_first, ← sumN_mulc]
    congr 1
    · simp
    · exact sumN_congr fun i _ => by rw [Int.pow_succ]; grind
  rw [e, Int.add_mul_emod_self_left, fermat_pow hp]
theorem res_inv {p n : Nat} (hp : P4 p) {xs : List Int} (lx : xs.length = n + 1) (h0 : at0 xs 0 % (p : Int) ≠ 0) :
    resV p (opL p (p : Int) xs (powWL p (p : Int) xs (invE p xs.length)) true) = 1 := by
  have hp1 : 1 < (p : Int) := by rcases hp with rfl | rfl | rfl | rfl <;> decide
  have hpp := pow_pos' (p := (p : Int)) (by omega) n
  have hbig : 1 < (p : Int) ^ (n + 1) := by
    rw [Int.pow_succ]
    calc (1 : Int) < p := hp1
      _ = 1 * p := (Int.one_mul _).symm
      _ ≤ (p : Int) ^ n * p := Int.mul_le_mul_of_nonneg_right (by omega) (by omega)
  rw [res_op hp (n := n + 1) (by omega) lx (by unfold powWL; rw [FL_len, lx])]
  simp only [if_pos]
  have e2 : resV p (powWL p (p : Int) xs (invE p xs.length)) = gh p (at0 xs) n ^ invE p (n + 1) % (p : Int) ^ (n + 1) := by
    unfold resV powWL
    rw [FL_len, lx, res_FL hp (by omega) (pow_ex hp _ _ _)]; rfl
  rw [e2]
  unfold resV
  rw [lx, show n + 1 - 1 = n by omega, ← Int.mul_emod]
  obtain ⟨q, hq⟩ : ∃ q, (p - 1) * p ^ n = q + 1 := ⟨(p - 1) * p ^ n - 1, by
    have h1 : 1 ≤ p - 1 := by rcases hp with rfl | rfl | rfl | rfl <;> decide
    have h2 : 1 ≤ p ^ n := Nat.pow_pos (by omega)
    have := Nat.mul_le_mul h1 h2
    omega⟩
  have e3 : gh p (at0 xs) n * gh p (at0 xs) n ^ invE p (n + 1) = gh p (at0 xs) n ^ ((p - 1) * p ^ n) := by
    unfold invE
    rw [show n + 1 - 1 = n by omega, hq, show q + 1 - 1 = q by omega, Int.pow_succ, Int.mul_comm]
  rw [e3, euler hp (gh_unit hp n h0)]
  exact Int.emod_eq_of_lt (by omega) hbig
end Go.Proofs.Ytcjinlfgeljmkaa
