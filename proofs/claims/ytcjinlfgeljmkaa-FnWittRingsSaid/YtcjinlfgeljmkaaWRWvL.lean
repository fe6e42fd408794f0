/- Lemmas of WvL. -/
import Derived.Test.YtcjinlfgeljmkaaWRWittR
import Derived.Test.YtcjinlfgeljmkaaWRWittG
set_option linter.unusedSimpArgs false
set_option linter.unusedVariables false
namespace Go.Proofs.Ytcjinlfgeljmkaa
open Go.RowKit

def TG (p n : Nat) (G : Nat → Int) : Prop := ∃ z, ∀ k, k < n → gh p z k = G k
theorem TG.gh (p n : Nat) (x : Nat → Int) : TG p n (gh p x) := ⟨x, fun _ _ => rfl⟩
theorem TG.op {p n : Nat} (hp : P4 p) {G H : Nat → Int} (hG : TG p n G) (hH : TG p n H) (t : Bool) : TG p n (fun k => if t then G k * H k else G k + H k) := by
  obtain ⟨x, hx⟩ := hG
  obtain ⟨y, hy⟩ := hH
  obtain ⟨z, hz⟩ := opG_ex hp x y t n
  exact ⟨z, fun k hk => by rw [hz k hk, opG, hx k hk, hy k hk]⟩
theorem TG.neg {p n : Nat} (hp : P4 p) {G : Nat → Int} (hG : TG p n G) : TG p n (fun k => - G k) := by
  obtain ⟨x, hx⟩ := hG
  obtain ⟨z, hz⟩ := neg_ex hp x n
  exact ⟨z, fun k hk => by rw [hz k hk, hx k hk]⟩
theorem gh_emod {p : Nat} {M : Int} {x y : Nat → Int} {k : Nat} (h : ∀ i, i ≤ k → x i % M = y i % M) : gh p x k % M = gh p y k % M := by
  unfold gh
  refine sumN_mod fun i hi => ?_
  rw [Int.mul_emod, pow_cong (h i (by omega)), ← Int.mul_emod]
theorem at_FL {p n : Nat} (hp : P4 p) {M : Int} (hM : 0 < M) {G : Nat → Int} {z : Nat → Int} (hz : ∀ k, k < n → gh p z k = G k) {i : Nat} (hi : i < n) : at0 (FL p M n G) i % M = z i % M := by
  rw [FL_at hp hM hz hi, Int.emod_emod_of_dvd _ (Int.dvd_refl M)]
theorem gh_FL {p n : Nat} (hp : P4 p) {M : Int} (hM : 0 < M) {G : Nat → Int} (hG : TG p n G) {k : Nat} (hk : k < n) : gh p (at0 (FL p M n G)) k % M = G k % M := by
  obtain ⟨z, hz⟩ := hG
  rw [← hz k hk]
  exact gh_emod fun i hi => at_FL hp hM hz (by omega)
theorem FL_F {p : Nat} (hp : P4 p) {M : Int} (hM : 0 < M) {F : Nat → (Nat → Int) → Int} (h : Gs p F) {n : Nat} {r s : Nat → Int} (hrs : ∀ i, r i % M = s i % M) : FL p M n (fun k => F k r) = FL p M n (fun k => F k s) := by
  obtain ⟨x, hx⟩ := op_ex hp h n r
  obtain ⟨y, hy⟩ := op_ex hp h n s
  exact FL_same hp hM hx hy (op_cong hp h n hrs hx hy)
theorem Gs.opt (p : Nat) (t : Bool) : Gs p (fun k r => if t then Go.Proofs.Ytcjinlfgeljmkaa.gh p (fun i => r (2 * i)) k * Go.Proofs.Ytcjinlfgeljmkaa.gh p (fun i => r (2 * i + 1)) k else Go.Proofs.Ytcjinlfgeljmkaa.gh p (fun i => r (2 * i)) k + Go.Proofs.Ytcjinlfgeljmkaa.gh p (fun i => r (2 * i + 1)) k) := by
  cases t
  · exact (Gs.gh p (fun i => 2 * i)).add (Gs.gh p (fun i => 2 * i + 1))
  · exact (Gs.gh p (fun i => 2 * i)).mul (Gs.gh p (fun i => 2 * i + 1))
theorem opL_FLs {p n : Nat} (hp : P4 p) {M : Int} (hM : 0 < M) {G H : Nat → Int} (hG : TG p n G) (hH : TG p n H) (t : Bool) :
    opL p M (FL p M n G) (FL p M n H) t = FL p M n (fun k => if t then G k * H k else G k + H k) := by
  obtain ⟨x, hx⟩ := hG
  obtain ⟨y, hy⟩ := hH
  unfold opL
  rw [FL_len]
  have e := FL_F hp hM (Gs.opt p t) (n := n) (r := two (cutS n (at0 (FL p M n G))) (cutS n (at0 (FL p M n H)))) (s := two (cutS n x) (cutS n y)) (fun j => by
    unfold two cutS
    split
    · by_cases h : j / 2 < n
      · simp only [if_pos h]; exact at_FL hp hM hx h
      · simp only [if_neg h]
    · by_cases h : j / 2 < n
      · simp only [if_pos h]; exact at_FL hp hM hy h
      · simp only [if_neg h])
  simp only [two_l, two_r] at e
  refine (FL_ext fun k hk => ?_).trans (e.trans (FL_ext fun k hk => ?_))
  · rw [gh_cut hk, gh_cut hk]; rfl
  · rw [gh_cut hk, gh_cut hk, hx k hk, hy k hk]
theorem FL_own {p n : Nat} (hp : P4 p) {M : Int} (hM : 0 < M) {xs : List Int} (hl : xs.length = n) (hx : ∀ x ∈ xs, 0 ≤ x ∧ x < M) : xs = FL p M n (gh p (at0 xs)) := by
  subst hl; exact (FL_self hp hM xs hx).symm

section rings
variable {p n : Nat} (hp : P4 p) {M : Int} (hM : 0 < M) {xs ys us : List Int} (lx : xs.length = n) (ly : ys.length = n) (lu : us.length = n)
  (hx : ∀ x ∈ xs, 0 ≤ x ∧ x < M) (hy : ∀ x ∈ ys, 0 ≤ x ∧ x < M) (hu : ∀ x ∈ us, 0 ≤ x ∧ x < M)
include hp hM lx ly lu hx hy hu
theorem opL_dist : opL p M (opL p M xs ys false) us true = opL p M (opL p M xs us true) (opL p M ys us true) false := by
  rw [FL_own hp hM lx hx, FL_own hp hM ly hy, FL_own hp hM lu hu]
  have a := TG.gh p n (at0 xs)
  have b := TG.gh p n (at0 ys)
  have c := TG.gh p n (at0 us)
  rw [opL_FLs hp hM a b, opL_FLs hp hM a c, opL_FLs hp hM b c, opL_FLs hp hM (a.op hp b false) c, opL_FLs hp hM (a.op hp c true) (b.op hp c true)]
  exact FL_ext fun k _ => by simp [Int.add_mul]
theorem opL_assoc : opL p M (opL p M xs ys true) us true = opL p M xs (opL p M ys us true) true := by
  rw [FL_own hp hM lx hx, FL_own hp hM ly hy, FL_own hp hM lu hu]
  have a := TG.gh p n (at0 xs)
  have b := TG.gh p n (at0 ys)
  have c := TG.gh p n (at0 us)
  rw [opL_FLs hp hM a b, opL_FLs hp hM b c, opL_FLs hp hM (a.op hp b true) c, opL_FLs hp hM a (b.op hp c true)]
  exact FL_ext fun k _ => by simp [Int.mul_assoc]
end rings
section rings2
variable {p n : Nat} (hp : P4 p) {M : Int} (hM : 0 < M) {xs ys : List Int} (lx : xs.length = n) (ly : ys.length = n)
  (hx : ∀ x ∈ xs, 0 ≤ x ∧ x < M) (hy : ∀ x ∈ ys, 0 ≤ x ∧ x < M)
include hp hM lx ly hx hy
theorem opL_back : opL p M (opL p M xs ys false) (negL p M ys) false = xs := by
  have e := FL_own hp hM lx hx
  unfold negL
  rw [ly]
  conv => lhs; rw [FL_own hp hM lx hx, FL_own hp hM ly hy]
  have a := TG.gh p n (at0 xs)
  have b := TG.gh p n (at0 ys)
  have e2 : FL p M n (fun k => - gh p (at0 (FL p M n (gh p (at0 ys)))) k) = FL p M n (fun k => - gh p (at0 ys) k) := by rw [← FL_own hp hM ly hy]
  rw [e2, opL_FLs hp hM a b, opL_FLs hp hM (a.op hp b false) (b.neg hp)]
  conv => rhs; rw [e]
  exact FL_ext fun k _ => by simp; omega
omit ly hx hy in
theorem opL_ghost (t : Bool) {k : Nat} (hk : k < n) : gh p (at0 (opL p M xs ys t)) k % M = (if t then (gh p (at0 xs) k % M) * (gh p (at0 ys) k % M) % M else (gh p (at0 xs) k % M + gh p (at0 ys) k % M) % M) := by
  have h := gh_FL hp hM (n := n) ((TG.gh p n (at0 xs)).op hp (TG.gh p n (at0 ys)) t) hk
  have e : opL p M xs ys t = FL p M n (fun k => if t then gh p (at0 xs) k * gh p (at0 ys) k else gh p (at0 xs) k + gh p (at0 ys) k) := by unfold opL; rw [lx]; rfl
  rw [e, h]
  cases t
  · simp [Int.add_emod]
  · simp [Int.mul_emod]
end rings2

end Go.Proofs.Ytcjinlfgeljmkaa
