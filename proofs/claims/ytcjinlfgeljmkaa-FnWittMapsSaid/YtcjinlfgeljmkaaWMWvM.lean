/- Lemmas of WvM. -/
import Derived.Test.YtcjinlfgeljmkaaWMG1
set_option linter.unusedSimpArgs false
set_option linter.unusedVariables false
namespace Go.Proofs.Ytcjinlfgeljmkaa

theorem gh_ext {p : Nat} {x y : Nat → Int} {k : Nat} (h : ∀ i, i ≤ k → x i = y i) : gh p x k = gh p y k := by
  unfold gh
  exact sumN_congr fun i hi => by rw [h i (by omega)]
theorem FL_ext {p : Nat} {M : Int} {n : Nat} {G H : Nat → Int} (h : ∀ k, k < n → G k = H k) : FL p M n G = FL p M n H := by
  unfold FL
  rw [List.map_congr_left (fun k hk => h k (List.mem_range.1 hk))]
theorem FL_at {p : Nat} (hp : P4 p) {M : Int} (hM : 0 < M) {n : Nat} {G : Nat → Int} {z : Nat → Int} (h : ∀ k, k < n → gh p z k = G k) {i : Nat} (hi : i < n) : at0 (FL p M n G) i = z i % M := by
  rw [FL_eq hp hM G z h, at0_get (by simpa using hi)]; simp
theorem FL_same {p : Nat} (hp : P4 p) {M : Int} (hM : 0 < M) {n : Nat} {G H : Nat → Int} {x y : Nat → Int} (hx : ∀ k, k < n → gh p x k = G k) (hy : ∀ k, k < n → gh p y k = H k) (h : ∀ i, i < n → x i % M = y i % M) : FL p M n G = FL p M n H := by
  rw [FL_eq hp hM G x hx, FL_eq hp hM H y hy]
  exact List.map_congr_left fun i hi => h i (List.mem_range.1 hi)

def two (x y : Nat → Int) : Nat → Int := fun j => if j % 2 = 0 then x (j / 2) else y (j / 2)
theorem two_l (p : Nat) (x y : Nat → Int) (k : Nat) : gh p (fun i => two x y (2 * i)) k = gh p x k := by
  congr 1; funext i; simp [two]
theorem two_r (p : Nat) (x y : Nat → Int) (k : Nat) : gh p (fun i => two x y (2 * i + 1)) k = gh p y k := by
  congr 1; funext i; simp only [two, show (2 * i + 1) % 2 = 1 by omega, show (2 * i + 1) / 2 = i by omega]; simp
def cutS (n : Nat) (x : Nat → Int) : Nat → Int := fun i => if i < n then x i else 0
theorem gh_cut {p : Nat} {x : Nat → Int} {n k : Nat} (h : k < n) : gh p (cutS n x) k = gh p x k := gh_ext fun i hi => by unfold cutS; rw [if_pos (by omega)]
theorem neg_ex {p : Nat} (hp : P4 p) (x : Nat → Int) (n : Nat) : ∃ z, ∀ k, k < n → gh p z k = - gh p x k := op_ex hp (Gs.gh p (fun i => i)).neg n x
theorem next_ex {p : Nat} (hp : P4 p) (x : Nat → Int) (n : Nat) : ∃ z, ∀ k, k < n → gh p z k = gh p x (k + 1) := op_ex hp (Gs.gh p (fun i => i)).next n x
theorem FL_self {p : Nat} (hp : P4 p) {M : Int} (hM : 0 < M) (xs : List Int) (hx : ∀ x ∈ xs, 0 ≤ x ∧ x < M) : FL p M xs.length (gh p (at0 xs)) = xs := by
  rw [FL_eq hp hM _ (at0 xs) (fun k _ => rfl)]
  symm
  refine map_range_ext rfl fun i hi => ?_
  have : at0 xs i ∈ xs := by rw [at0_get hi]; exact List.getElem_mem hi
  have := hx _ this
  exact (Int.emod_eq_of_lt this.1 this.2).symm

theorem sumN_first (n : Nat) (f : Nat → Int) : sumN (n + 1) f = f 0 + sumN n (fun j => f (j + 1)) := by
  induction n with
  | zero => simp [sumN]
  | succ n ih =>
    rw [show sumN (n + 1 + 1) f = sumN (n + 1) f + f (n + 1) from rfl, ih]
    simp only [sumN]; omega
end Go.Proofs.Ytcjinlfgeljmkaa
