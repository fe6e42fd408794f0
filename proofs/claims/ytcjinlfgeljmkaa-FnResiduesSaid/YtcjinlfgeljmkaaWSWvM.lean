/- Lemmas of WvM. -/
import Derived.Test.YtcjinlfgeljmkaaWSG1
set_option linter.unusedSimpArgs false
set_option linter.unusedVariables false
namespace Go.Proofs.Ytcjinlfgeljmkaa

theorem gh_ext {p : Nat} {x y : Nat → Int} {k : Nat} (h : ∀ i, i ≤ k → x i = y i) : gh p x k = gh p y k := by
  unfold gh
  exact sumN_congr fun i hi => by rw [h i (by omega)]
theorem FL_ext {p : Nat} {M : Int} {n : Nat} {G H : Nat → Int} (h : ∀ k, k < n → G k = H k) : FL p M n G = FL p M n H := by
  unfold FL
  rw [List.map_congr_left (fun k hk => h k (List.mem_range.1 hk))]
theorem FL_at {p : Nat} (hp : P4 p) {M : Int} (hM : 0 < M) {n : Nat} {G : Nat → Int} {z : Nat → Int} (h : ∀ k, k < n → gh p z k = G k) {i : Nat} (hi : i < n) : at0 (FL p M n G) i = z i % M := by
  rw [FL_eq hp hM G z h, at0_get (by simpa using hi)]; simp
theorem FL_same {p : Nat} (hp : P4 p) {M : Int} (hM : 0 < M) {n : Nat} {G H : Nat → Int} {x y : Nat → Int} (hx : ∀ k, k < n → gh p x k = G k) (hy : ∀ k, k < n → gh p y k = H k) (h : ∀ i, i < n → x i % M = y i % M) : FL p M n G = FL p M n H := by
  rw [FL_eq hp hM G x hx, FL_eq hp hM H y hy]
  exact List.map_congr_left fun i hi => h i (List.mem_range.1 hi)

def two (x y : Nat → Int) : Nat → Int := fun j => if j % 2 = 0 then x (j / 2) else y (j / 2)
theorem two_l (p : Nat) (x y : Nat → Int) (k : Nat) : gh p (fun i => two x y (2 * i)) k = gh p x k := by
  congr 1; funext i; simp [two]
theorem two_r (p : Nat) (x y : Nat → Int) (k : Nat) : gh p (fun i => two x y (2 * i + 1)) k = gh p y k := by
  congr 1; funext i; simp only [two, show (2 * i + 1) % 2 = 1 by omega, show (2 * i + 1) / 2 = i by omega]; simp
def cutS (n : Nat) (x : Nat → Int) : Nat → Int := fun i => if i < n then x i else 0
theorem gh_cut {p : Nat} {x : Nat → Int} {n k : Nat} (h : k < n) : gh p (cutS n x) k = gh p x k := gh_ext fun i hi => by unfold cutS; rw [if_pos (by omega)]
theorem mul_ex {p : Nat} (hp : P4 p) (x y : Nat → Int) (n : Nat) : ∃ z, ∀ k, k < n → gh p z k = gh p x k * gh p y k := by
  obtain ⟨z, hz⟩ := op_ex hp ((Gs.gh p (fun i => 2 * i)).mul (Gs.gh p (fun i => 2 * i + 1))) n (two x y)
  exact ⟨z, fun k hk => by rw [hz k hk]; simp only [two_l, two_r]⟩
theorem const_ex {p : Nat} (hp : P4 p) (c : Int) (n : Nat) : ∃ z, ∀ k, k < n → gh p z k = c := op_ex hp (Gs.const p c) n (fun _ => 0)
theorem neg_ex {p : Nat} (hp : P4 p) (x : Nat → Int) (n : Nat) : ∃ z, ∀ k, k < n → gh p z k = - gh p x k := op_ex hp (Gs.gh p (fun i => i)).neg n x
theorem pow_ex {p : Nat} (hp : P4 p) (x : Nat → Int) (n e : Nat) : ∃ z, ∀ k, k < n → gh p z k = gh p x k ^ e := by
  induction e with
  | zero => obtain ⟨z, hz⟩ := const_ex hp 1 n; exact ⟨z, fun k hk => by rw [hz k hk, Int.pow_zero]⟩
  | succ e ih =>
    obtain ⟨y, hy⟩ := ih
    obtain ⟨z, hz⟩ := mul_ex hp y x n
    exact ⟨z, fun k hk => by rw [hz k hk, hy k hk, Int.pow_succ]⟩
theorem mul_cong {p : Nat} (hp : P4 p) {M : Int} {n : Nat} {x y x' y' z z' : Nat → Int} (hx : ∀ i, i < n → x i % M = x' i % M) (hy : ∀ i, i < n → y i % M = y' i % M)
    (hz : ∀ k, k < n → gh p z k = gh p x k * gh p y k) (hz' : ∀ k, k < n → gh p z' k = gh p x' k * gh p y' k) : ∀ i, i < n → z i % M = z' i % M := by
  refine op_cong hp ((Gs.gh p (fun i => 2 * i)).mul (Gs.gh p (fun i => 2 * i + 1))) n (r := two (cutS n x) (cutS n y)) (s := two (cutS n x') (cutS n y')) (fun j => ?_) (fun k hk => ?_) (fun k hk => ?_)
  · unfold two cutS
    split
    · by_cases h : j / 2 < n
      · simp only [if_pos h]; exact hx _ h
      · simp only [if_neg h]
    · by_cases h : j / 2 < n
      · simp only [if_pos h]; exact hy _ h
      · simp only [if_neg h]
  · rw [hz k hk]; simp only [two_l, two_r]; rw [gh_cut hk, gh_cut hk]
  · rw [hz' k hk]; simp only [two_l, two_r]; rw [gh_cut hk, gh_cut hk]
theorem FL_mul {p : Nat} (hp : P4 p) {M : Int} (hM : 0 < M) {n : Nat} {G H : Nat → Int} (hG : ∃ x, ∀ k, k < n → gh p x k = G k) (hH : ∃ y, ∀ k, k < n → gh p y k = H k) :
    FL p M n (fun k => gh p (at0 (FL p M n G)) k * gh p (at0 (FL p M n H)) k) = FL p M n (fun k => G k * H k) := by
  obtain ⟨x, hx⟩ := hG
  obtain ⟨y, hy⟩ := hH
  obtain ⟨z, hz⟩ := mul_ex hp (at0 (FL p M n G)) (at0 (FL p M n H)) n
  obtain ⟨z', hz'⟩ := mul_ex hp x y n
  refine FL_same hp hM hz (fun k hk => by rw [hz' k hk, hx k hk, hy k hk]) (mul_cong hp (fun i hi => ?_) (fun i hi => ?_) hz hz')
  · rw [FL_at hp hM hx hi, Int.emod_emod_of_dvd _ (Int.dvd_refl M)]
  · rw [FL_at hp hM hy hi, Int.emod_emod_of_dvd _ (Int.dvd_refl M)]
theorem FL_self {p : Nat} (hp : P4 p) {M : Int} (hM : 0 < M) (xs : List Int) (hx : ∀ x ∈ xs, 0 ≤ x ∧ x < M) : FL p M xs.length (gh p (at0 xs)) = xs := by
  rw [FL_eq hp hM _ (at0 xs) (fun k _ => rfl)]
  symm
  refine map_range_ext rfl fun i hi => ?_
  have : at0 xs i ∈ xs := by rw [at0_get hi]; exact List.getElem_mem hi
  have := hx _ this
  exact (Int.emod_eq_of_lt this.1 this.2).symm

theorem lift_pow {p : Nat} (hp : P4 p) {a b : Int} (h : a % (p : Int) = b % (p : Int)) (k : Nat) : a ^ (p ^ k) % ((p : Int) ^ (k + 1)) = b ^ (p ^ k) % ((p : Int) ^ (k + 1)) := by
  have h1 : (a - b) % (p : Int) = 0 := by rw [Int.sub_emod, h, ← Int.sub_emod]; simp
  obtain ⟨q, hq⟩ := Int.dvd_of_emod_eq_zero h1
  obtain rfl : a = b + p * q := by omega
  clear h h1 hq
  have key : ∃ s : Int, (b + p * q) ^ (p ^ k) = b ^ (p ^ k) + (p : Int) ^ (k + 1) * s := by
    induction k with
    | zero => exact ⟨q, by simp [pow1]⟩
    | succ k ih =>
      obtain ⟨s, hs⟩ := ih
      obtain ⟨u, -, hu⟩ := powstep hp (Pol.const (b ^ (p ^ k))) (Pol.const s) ((p : Int) ^ k)
      refine ⟨u (fun _ => 0), ?_⟩
      rw [Nat.pow_succ, Int.pow_mul, hs, Int.pow_mul]
      have e1 : (p : Int) ^ (k + 1) = p * (p : Int) ^ k := by rw [Int.pow_succ, Int.mul_comm]
      have := hu (fun _ => 0)
      rw [e1, this, Int.pow_succ, e1]
      grind
  obtain ⟨s, hs⟩ := key
  rw [hs, Int.add_mul_emod_self_left]
theorem fermat_pow {p : Nat} (hp : P4 p) (a : Int) (k : Nat) : a ^ (p ^ k) % (p : Int) = a % (p : Int) := by
  induction k with
  | zero => simp [pow1]
  | succ k ih =>
    obtain ⟨h, hh⟩ := fermat hp (a ^ (p ^ k))
    rw [Nat.pow_succ, Int.pow_mul, hh, Int.add_mul_emod_self_left, ih]

def resT (p : Nat) (z : Nat → Int) (n i : Nat) : Int := sumN (n - i) (fun j => (p : Int) ^ j * z (i + j) ^ (p ^ (n - 1 - i - j)))
theorem sumN_first (n : Nat) (f : Nat → Int) : sumN (n + 1) f = f 0 + sumN n (fun j => f (j + 1)) := by
  induction n with
  | zero => simp [sumN]
  | succ n ih =>
    rw [show sumN (n + 1 + 1) f = sumN (n + 1) f + f (n + 1) from rfl, ih]
    simp only [sumN]; omega
theorem resT_step {p : Nat} {z : Nat → Int} {n i : Nat} (h : i < n) : resT p z n i = z i ^ (p ^ (n - 1 - i)) + p * resT p z n (i + 1) := by
  unfold resT
  obtain ⟨d, hd⟩ : ∃ d, n - i = d + 1 := ⟨n - i - 1, by omega⟩
  rw [hd, sumN_first, show n - (i + 1) = d by omega, ← sumN_mulc]
  congr 1
  · simp
  · refine sumN_congr fun j hj => ?_
    rw [show i + (j + 1) = i + 1 + j by omega, show n - 1 - i - (j + 1) = n - 1 - (i + 1) - j by omega, Int.pow_succ]
    grind
theorem resT_0 {p : Nat} {z : Nat → Int} {n : Nat} (h : 0 < n) : resT p z n 0 = gh p z (n - 1) := by
  unfold resT gh
  rw [show n - 0 = n - 1 + 1 by omega]
  exact sumN_congr fun j hj => by rw [Nat.zero_add, Nat.sub_zero]
theorem res_step {p : Nat} (hp : P4 p) {z : Nat → Int} {n i : Nat} (hi : i < n) {c : Int} (hc : c % (p : Int) ^ (n - i) = resT p z n i % (p : Int) ^ (n - i)) :
    c % (p : Int) = z i % (p : Int) ∧ ((c - (c % (p : Int)) ^ (p ^ (n - 1 - i)) % (p : Int) ^ (n - i)) % (p : Int) ^ (n - i) / (p : Int)) % (p : Int) ^ (n - (i + 1)) = resT p z n (i + 1) % (p : Int) ^ (n - (i + 1)) := by
  have hp0 : 0 < (p : Int) := by rcases hp with rfl | rfl | rfl | rfl <;> decide
  obtain ⟨d, hd⟩ : ∃ d, n - i = d + 1 := ⟨n - i - 1, by omega⟩
  have e1 : n - 1 - i = d := by omega
  have e2 : n - (i + 1) = d := by omega
  have hst := resT_step (p := p) (z := z) hi
  rw [hd] at hc
  rw [hd, e1, e2]
  rw [e1] at hst
  have hpd : (p : Int) ^ (d + 1) = p * (p : Int) ^ d := by rw [Int.pow_succ, Int.mul_comm]
  have h1 : c % (p : Int) = z i % (p : Int) := by
    have hdv : (p : Int) ∣ (p : Int) ^ (d + 1) := ⟨(p : Int) ^ d, hpd⟩
    rw [← Int.emod_emod_of_dvd c hdv, hc, Int.emod_emod_of_dvd _ hdv, hst, Int.add_mul_emod_self_left, fermat_pow hp]
  refine ⟨h1, ?_⟩
  have h2 : (c % (p : Int)) ^ (p ^ d) % (p : Int) ^ (d + 1) = z i ^ (p ^ d) % (p : Int) ^ (d + 1) := lift_pow hp (by rw [Int.emod_emod_of_dvd _ (Int.dvd_refl _), h1]) d
  have h3 : (c - (c % (p : Int)) ^ (p ^ d) % (p : Int) ^ (d + 1)) % (p : Int) ^ (d + 1) = (p * resT p z n (i + 1)) % (p : Int) ^ (d + 1) := by
    rw [h2, Int.sub_emod, hc, Int.emod_emod_of_dvd _ (Int.dvd_refl _), ← Int.sub_emod, hst]
    congr 1
    omega
  rw [h3, hpd, Int.mul_emod_mul_of_pos _ _ hp0, Int.mul_ediv_cancel_left _ (by omega), Int.emod_emod_of_dvd _ (Int.dvd_refl _)]

def ofRes (p n : Nat) : Nat → Int → List Int
  | 0, _ => []
  | k + 1, c => (c % (p : Int)) :: ofRes p n k ((c - (c % (p : Int)) ^ (p ^ k) % (p : Int) ^ (k + 1)) % (p : Int) ^ (k + 1) / (p : Int))
theorem ofRes_eq {p : Nat} (hp : P4 p) {z : Nat → Int} {n : Nat} : ∀ (k : Nat) (i : Nat) (c : Int), i + k = n → c % (p : Int) ^ k = resT p z n i % (p : Int) ^ k →
    ofRes p n k c = (List.range k).map (fun j => z (i + j) % (p : Int)) := by
  intro k
  induction k with
  | zero => intro i c _ _; rfl
  | succ k ih =>
    intro i c hik hc
    have e : n - i = k + 1 := by omega
    have hs := res_step hp (i := i) (n := n) (by omega) (c := c) (by rw [e]; exact hc)
    rw [e, show n - 1 - i = k by omega, show n - (i + 1) = k by omega] at hs
    unfold ofRes
    rw [ih (i + 1) _ (by omega) hs.2, hs.1, List.range_succ_eq_map, List.map_cons, List.map_map]
    congr 1
    refine List.map_congr_left fun j _ => ?_
    simp only [Function.comp]
    rw [show i + 1 + j = i + (j + 1) by omega]
theorem ofRes_FL {p : Nat} (hp : P4 p) {n : Nat} (hn : 0 < n) {G : Nat → Int} (hG : ∃ z, ∀ k, k < n → gh p z k = G k) {c : Int} (hc : c % (p : Int) ^ n = G (n - 1) % (p : Int) ^ n) : ofRes p n n c = FL p (p : Int) n G := by
  obtain ⟨z, hz⟩ := hG
  have hp0 : 0 < (p : Int) := by rcases hp with rfl | rfl | rfl | rfl <;> decide
  rw [FL_eq hp hp0 G z hz, ofRes_eq hp n 0 c (by omega) (by rw [resT_0 hn, hz _ (by omega)]; exact hc)]
  exact List.map_congr_left fun j _ => by rw [Nat.zero_add]
end Go.Proofs.Ytcjinlfgeljmkaa
