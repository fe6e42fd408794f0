/- Lemmas of G1. -/
import Derived.WalkKit
import Derived.Deep.RegionHeld3
/- Plain arithmetic: remainders, powers. No program stands here. -/
set_option linter.unusedSimpArgs false
set_option linter.unusedVariables false
namespace Go.Proofs.Ytcjinlfgeljmkaa

theorem tmod_mod {n m : Int} : (n.tmod m + m) % m = n % m := by
  rw [Int.add_emod_right, Int.tmod_def]
  have := Int.sub_mul_emod_self_left n m (n.tdiv m)
  grind

theorem pow1 (a : Int) : a ^ 1 = a := by rw [Int.pow_succ, Int.pow_zero, Int.one_mul]

theorem pow_mod (a m : Int) (k : Nat) : (a % m) ^ k % m = a ^ k % m := by
  induction k with
  | zero => simp [Int.pow_zero]
  | succ k ih => rw [Int.pow_succ, Int.pow_succ, Int.mul_emod, ih, Int.emod_emod_of_dvd _ (Int.dvd_refl m), ← Int.mul_emod]

theorem pow_pos' {p : Int} (hp : 1 ≤ p) (k : Nat) : 1 ≤ p ^ k := by
  induction k with
  | zero => simp
  | succ k ih => rw [Int.pow_succ]; exact Int.le_trans (by omega) (Int.mul_le_mul ih hp (by omega) (by omega))

theorem pow_le {p : Int} (hp : 1 ≤ p) {j k : Nat} (h : j ≤ k) : p ^ j ≤ p ^ k := by
  induction k with
  | zero => obtain rfl : j = 0 := by omega
            exact Int.le_refl _
  | succ k ih =>
    rcases Nat.lt_or_ge k j with h1 | h1
    · obtain rfl : j = k + 1 := by omega
      exact Int.le_refl _
    · have := ih h1
      have h2 := pow_pos' hp k
      rw [Int.pow_succ]
      have : p ^ k * 1 ≤ p ^ k * p := Int.mul_le_mul_of_nonneg_left hp (by omega)
      omega

theorem mul_lt_of {a b m : Int} (ha : 0 ≤ a) (hb : 0 ≤ b) (ha' : a < m) (hb' : b < m) : a * b ≤ (m - 1) * (m - 1) := Int.mul_le_mul (by omega) (by omega) hb (by omega)

theorem prod_fits {a b m : Int} (ha : 0 ≤ a) (hb : 0 ≤ b) (ha' : a < m) (hb' : b < m) (hm : m ≤ 3000000000) : 0 ≤ a * b ∧ a * b ≤ 9000000000000000000 := by
  have h := mul_lt_of ha hb ha' hb'
  have h2 : (m - 1) * (m - 1) ≤ 2999999999 * 2999999999 := Int.mul_le_mul (by omega) (by omega) (by omega) (by omega)
  exact ⟨Int.mul_nonneg ha hb, by omega⟩

theorem mod_lt' {a m : Int} (hm : 0 < m) : 0 ≤ a % m ∧ a % m < m := ⟨Int.emod_nonneg _ (by omega), Int.emod_lt_of_pos _ hm⟩

theorem raise_odd {out a m : Int} {k : Nat} (h : k % 2 = 1) : (out * a % m) * (a * a % m) ^ (k / 2) % m = out * a ^ k % m := by
  have e : a ^ k = a * (a * a) ^ (k / 2) := by
    have hk : k = 2 * (k / 2) + 1 := by omega
    conv => lhs; rw [hk]
    rw [Int.pow_succ, Int.pow_mul, Int.mul_comm]
    congr 1
    rw [show a ^ 2 = a * a from by rw [Int.pow_succ, Int.pow_succ, Int.pow_zero, Int.one_mul]]
  rw [e, Int.mul_emod, pow_mod, Int.emod_emod_of_dvd _ (Int.dvd_refl m), ← Int.mul_emod, Int.mul_assoc]
theorem raise_even {out a m : Int} {k : Nat} (h : k % 2 = 0) : out * (a * a % m) ^ (k / 2) % m = out * a ^ k % m := by
  have e : a ^ k = (a * a) ^ (k / 2) := by
    have hk : k = 2 * (k / 2) := by omega
    conv => lhs; rw [hk]
    rw [Int.pow_mul]
    rw [show a ^ 2 = a * a from by rw [Int.pow_succ, Int.pow_succ, Int.pow_zero, Int.one_mul]]
  rw [e, Int.mul_emod, pow_mod, ← Int.mul_emod]
end Go.Proofs.Ytcjinlfgeljmkaa

/- Witt vectors of whole numbers, in plain arithmetic: polynomials with whole coefficients, the lift of the Frobenius, and the vector that has given ghosts. No program stands here. -/
set_option linter.unusedSimpArgs false
set_option linter.unusedVariables false
namespace Go.Proofs.Ytcjinlfgeljmkaa

def sumN : Nat → (Nat → Int) → Int
  | 0, _ => 0
  | n + 1, f => sumN n f + f n
theorem sumN_congr {n : Nat} {f g : Nat → Int} (h : ∀ i, i < n → f i = g i) : sumN n f = sumN n g := by
  induction n with
  | zero => rfl
  | succ n ih => simp only [sumN]; rw [ih (fun i hi => h i (by omega)), h n (by omega)]
theorem sumN_mulc (n : Nat) (f : Nat → Int) (c : Int) : sumN n (fun i => c * f i) = c * sumN n f := by
  induction n with
  | zero => simp [sumN]
  | succ n ih => simp only [sumN]; rw [ih, Int.mul_add]
theorem sumN_mod {n : Nat} {f g : Nat → Int} {m : Int} (h : ∀ i, i < n → f i % m = g i % m) : sumN n f % m = sumN n g % m := by
  induction n with
  | zero => rfl
  | succ n ih => simp only [sumN]; rw [Int.add_emod, ih (fun i hi => h i (by omega)), h n (by omega), ← Int.add_emod]

inductive Pol : ((Nat → Int) → Int) → Prop
  | var (i : Nat) : Pol (fun r => r i)
  | const (c : Int) : Pol (fun _ => c)
  | add {f g : (Nat → Int) → Int} : Pol f → Pol g → Pol (fun r => f r + g r)
  | mul {f g : (Nat → Int) → Int} : Pol f → Pol g → Pol (fun r => f r * g r)

theorem Pol.pow {f : (Nat → Int) → Int} (h : Pol f) (k : Nat) : Pol (fun r => f r ^ k) := by
  induction k with
  | zero => simp only [Int.pow_zero]; exact Pol.const 1
  | succ k ih => simp only [Int.pow_succ]; exact Pol.mul ih h
theorem Pol.neg {f : (Nat → Int) → Int} (h : Pol f) : Pol (fun r => - f r) := by
  have : Pol (fun r => (-1) * f r) := .mul (.const (-1)) h
  have e : (fun r => - f r) = fun r => (-1) * f r := by funext r; omega
  rw [e]; exact this
theorem Pol.sub {f g : (Nat → Int) → Int} (h : Pol f) (k : Pol g) : Pol (fun r => f r - g r) := (Pol.add h k.neg : Pol (fun r => f r + - g r))
theorem Pol.sum {F : Nat → (Nat → Int) → Int} (h : ∀ i, Pol (F i)) (n : Nat) : Pol (fun r => sumN n (fun i => F i r)) := by
  induction n with
  | zero => exact Pol.const 0
  | succ n ih => exact Pol.add ih (h n)

def fr (p : Nat) (f : (Nat → Int) → Int) : (Nat → Int) → Int := fun r => f (fun i => r i ^ p)
theorem Pol.fr {p : Nat} {f : (Nat → Int) → Int} (h : Pol f) : Pol (fr p f) := by
  induction h with
  | var i => exact (Pol.var i).pow p
  | const c => exact Pol.const c
  | add _ _ ih1 ih2 => exact Pol.add ih1 ih2
  | mul _ _ ih1 ih2 => exact Pol.mul ih1 ih2

theorem Pol.congr {f : (Nat → Int) → Int} (h : Pol f) {m : Int} {r s : Nat → Int} (hrs : ∀ i, r i % m = s i % m) : f r % m = f s % m := by
  induction h with
  | var i => exact hrs i
  | const c => rfl
  | add _ _ ih1 ih2 => simp only []; rw [Int.add_emod, ih1, ih2, ← Int.add_emod]
  | mul _ _ ih1 ih2 => simp only []; rw [Int.mul_emod, ih1, ih2, ← Int.mul_emod]

def P4 (p : Nat) : Prop := p = 2 ∨ p = 3 ∨ p = 5 ∨ p = 7

theorem fermat {p : Nat} (hp : P4 p) (c : Int) : ∃ h : Int, c ^ p = c + p * h := by
  have key : (c ^ p - c) % (p : Int) = 0 := by
    have h1 : c ^ p % (p : Int) = (c % (p : Int)) ^ p % (p : Int) := (pow_mod c p p).symm
    have h2 : 0 ≤ c % (p : Int) := Int.emod_nonneg _ (by rcases hp with rfl | rfl | rfl | rfl <;> decide)
    have h3 : c % (p : Int) < p := Int.emod_lt_of_pos _ (by rcases hp with rfl | rfl | rfl | rfl <;> decide)
    rw [Int.sub_emod, h1]
    generalize c % (p : Int) = d at h2 h3
    rcases hp with rfl | rfl | rfl | rfl
    · have : d = 0 ∨ d = 1 := by omega
      rcases this with rfl | rfl <;> decide
    · have : d = 0 ∨ d = 1 ∨ d = 2 := by omega
      rcases this with rfl | rfl | rfl <;> decide
    · have : d = 0 ∨ d = 1 ∨ d = 2 ∨ d = 3 ∨ d = 4 := by omega
      rcases this with rfl | rfl | rfl | rfl | rfl <;> decide
    · have : d = 0 ∨ d = 1 ∨ d = 2 ∨ d = 3 ∨ d = 4 ∨ d = 5 ∨ d = 6 := by omega
      rcases this with rfl | rfl | rfl | rfl | rfl | rfl | rfl <;> decide
  obtain ⟨h, hh⟩ := Int.dvd_of_emod_eq_zero key
  exact ⟨h, by omega⟩

theorem pow_add_p {p : Nat} (hp : P4 p) {f g : (Nat → Int) → Int} (hf : Pol f) (hg : Pol g) : ∃ s, Pol s ∧ ∀ r, (f r + g r) ^ p = f r ^ p + g r ^ p + p * s r := by
  rcases hp with rfl | rfl | rfl | rfl
  · exact ⟨_, hf.mul hg, fun r => by grind⟩
  · exact ⟨_, ((hf.pow 2).mul hg).add (hf.mul (hg.pow 2)), fun r => by grind⟩
  · exact ⟨_, (((hf.pow 4).mul hg).add (((Pol.const 2).mul (hf.pow 3)).mul (hg.pow 2))).add ((((Pol.const 2).mul (hf.pow 2)).mul (hg.pow 3)).add (hf.mul (hg.pow 4))), fun r => by grind⟩
  · exact ⟨_, ((((hf.pow 6).mul hg).add (((Pol.const 3).mul (hf.pow 5)).mul (hg.pow 2))).add ((((Pol.const 5).mul (hf.pow 4)).mul (hg.pow 3)).add (((Pol.const 5).mul (hf.pow 3)).mul (hg.pow 4)))).add ((((Pol.const 3).mul (hf.pow 2)).mul (hg.pow 5)).add (hf.mul (hg.pow 6))), fun r => by grind⟩

theorem frob {p : Nat} (hp : P4 p) {f : (Nat → Int) → Int} (h : Pol f) : ∃ g, Pol g ∧ ∀ r, f r ^ p = fr p f r + p * g r := by
  induction h with
  | var i => exact ⟨_, Pol.const 0, fun r => by simp [fr]⟩
  | const c =>
    obtain ⟨h, hh⟩ := fermat hp c
    exact ⟨_, Pol.const h, fun r => hh⟩
  | @add f g hf hg ih1 ih2 =>
    obtain ⟨u, hu, eu⟩ := ih1
    obtain ⟨v, hv, ev⟩ := ih2
    obtain ⟨s, hs, es⟩ := pow_add_p hp hf hg
    refine ⟨_, (hu.add hv).add hs, fun r => ?_⟩
    simp only []
    rw [es r, eu r, ev r]
    show _ = fr p f r + fr p g r + _
    grind
  | @mul f g hf hg ih1 ih2 =>
    obtain ⟨u, hu, eu⟩ := ih1
    obtain ⟨v, hv, ev⟩ := ih2
    refine ⟨_, ((hf.fr (p := p)).mul hv).add ((hu.mul (hg.fr (p := p))).add ((Pol.const (p : Int)).mul (hu.mul hv))), fun r => ?_⟩
    simp only []
    rw [Int.mul_pow, eu r, ev r]
    show _ = fr p f r * fr p g r + _
    grind

theorem powstep {p : Nat} (hp : P4 p) {g h : (Nat → Int) → Int} (hg : Pol g) (hh : Pol h) (q : Int) : ∃ s, Pol s ∧ ∀ r, (g r + p * q * h r) ^ p = g r ^ p + p * (p * q) * s r := by
  have hq := Pol.const q
  rcases hp with rfl | rfl | rfl | rfl
  · exact ⟨_, (hg.mul hh).add (hq.mul (hh.pow 2)), fun r => by grind⟩
  · exact ⟨_, ((hg.pow 2).mul hh).add (hq.mul (((Pol.const 3).mul (hg.mul (hh.pow 2))).add (((Pol.const 3).mul hq).mul (hh.pow 3)))), fun r => by grind⟩
  · exact ⟨_, ((hg.pow 4).mul hh).add (hq.mul ((((Pol.const 10).mul ((hg.pow 3).mul (hh.pow 2))).add (((Pol.const 50).mul hq).mul ((hg.pow 2).mul (hh.pow 3)))).add ((((Pol.const 125).mul (hq.pow 2)).mul (hg.mul (hh.pow 4))).add (((Pol.const 125).mul (hq.pow 3)).mul (hh.pow 5))))), fun r => by grind⟩
  · exact ⟨_, ((hg.pow 6).mul hh).add (hq.mul ((((Pol.const 21).mul ((hg.pow 5).mul (hh.pow 2))).add (((Pol.const 245).mul hq).mul ((hg.pow 4).mul (hh.pow 3)))).add (((((Pol.const 1715).mul (hq.pow 2)).mul ((hg.pow 3).mul (hh.pow 4))).add (((Pol.const 7203).mul (hq.pow 3)).mul ((hg.pow 2).mul (hh.pow 5)))).add ((((Pol.const 16807).mul (hq.pow 4)).mul (hg.mul (hh.pow 6))).add (((Pol.const 16807).mul (hq.pow 5)).mul (hh.pow 7)))))), fun r => by grind⟩

theorem frob_pow {p : Nat} (hp : P4 p) {f : (Nat → Int) → Int} (h : Pol f) (j : Nat) : ∃ g, Pol g ∧ ∀ r, f r ^ (p ^ (j + 1)) = fr p f r ^ (p ^ j) + (p : Int) ^ (j + 1) * g r := by
  induction j with
  | zero =>
    obtain ⟨g, hg, e⟩ := frob hp h
    exact ⟨g, hg, fun r => by simpa [pow1] using e r⟩
  | succ j ih =>
    obtain ⟨g, hg, e⟩ := ih
    obtain ⟨s, hs, es⟩ := powstep hp ((h.fr (p := p)).pow (p ^ j)) hg ((p : Int) ^ j)
    refine ⟨s, hs, fun r => ?_⟩
    rw [Nat.pow_succ, Int.pow_mul, e r, Nat.pow_succ, Int.pow_mul]
    have := es r
    have e1 : (p : Int) ^ (j + 1) = p * (p : Int) ^ j := by rw [Int.pow_succ, Int.mul_comm]
    rw [e1, this, Int.pow_succ, e1]
    grind

def gh (p : Nat) (x : Nat → Int) (k : Nat) : Int := sumN (k + 1) (fun i => (p : Int) ^ i * x i ^ (p ^ (k - i)))

theorem gh_succ (p : Nat) (x : Nat → Int) (k : Nat) : gh p x (k + 1) = gh p (fun i => x i ^ p) k + (p : Int) ^ (k + 1) * x (k + 1) := by
  unfold gh
  rw [show sumN (k + 1 + 1) (fun i => (p : Int) ^ i * x i ^ (p ^ (k + 1 - i))) = sumN (k + 1) (fun i => (p : Int) ^ i * x i ^ (p ^ (k + 1 - i))) + (p : Int) ^ (k + 1) * x (k + 1) ^ (p ^ (k + 1 - (k + 1))) from rfl]
  congr 1
  · apply sumN_congr
    intro i hi
    rw [show k + 1 - i = (k - i) + 1 by omega, Nat.pow_succ, Nat.mul_comm, Int.pow_mul]
  · simp [pow1]

structure Gs (p : Nat) (F : Nat → (Nat → Int) → Int) : Prop where
  pol : ∀ k, Pol (F k)
  step : ∀ k, ∃ d, Pol d ∧ ∀ r, F (k + 1) r = fr p (F k) r + (p : Int) ^ (k + 1) * d r

theorem Gs.gh (p : Nat) (v : Nat → Nat) : Gs p (fun k r => gh p (fun i => r (v i)) k) :=
  ⟨fun k => Pol.sum (fun i => (Pol.const _).mul ((Pol.var (v i)).pow _)) (k + 1),
   fun k => ⟨_, Pol.var (v (k + 1)), fun r => gh_succ p (fun i => r (v i)) k⟩⟩
theorem Gs.const (p : Nat) (c : Int) : Gs p (fun _ _ => c) := ⟨fun _ => Pol.const c, fun k => ⟨_, Pol.const 0, fun r => by simp [fr]⟩⟩
theorem Gs.add {p : Nat} {F G : Nat → (Nat → Int) → Int} (h : Gs p F) (k : Gs p G) : Gs p (fun j r => F j r + G j r) :=
  ⟨fun j => (h.pol j).add (k.pol j), fun j => by
    obtain ⟨d, hd, e⟩ := h.step j
    obtain ⟨d', hd', e'⟩ := k.step j
    exact ⟨_, hd.add hd', fun r => by show F (j+1) r + G (j+1) r = (fr p (F j) r + fr p (G j) r) + _; rw [e r, e' r]; grind⟩⟩
theorem Gs.mul {p : Nat} {F G : Nat → (Nat → Int) → Int} (h : Gs p F) (k : Gs p G) : Gs p (fun j r => F j r * G j r) :=
  ⟨fun j => (h.pol j).mul (k.pol j), fun j => by
    obtain ⟨d, hd, e⟩ := h.step j
    obtain ⟨d', hd', e'⟩ := k.step j
    exact ⟨_, (((h.pol j).fr (p := p)).mul hd').add ((hd.mul ((k.pol j).fr (p := p))).add ((Pol.const ((p : Int) ^ (j + 1))).mul (hd.mul hd'))), fun r => by
      show F (j+1) r * G (j+1) r = (fr p (F j) r * fr p (G j) r) + _
      rw [e r, e' r]; grind⟩⟩
theorem Gs.neg {p : Nat} {F : Nat → (Nat → Int) → Int} (h : Gs p F) : Gs p (fun j r => - F j r) := by
  have := (Gs.const p (-1)).mul h
  have e : (fun (j : Nat) r => - F j r) = fun j r => (-1) * F j r := by funext j r; omega
  rw [e]; exact this
theorem dwork {p : Nat} (hp : P4 p) {F : Nat → (Nat → Int) → Int} (h : Gs p F) (n : Nat) :
    ∃ X : Nat → (Nat → Int) → Int, (∀ i, Pol (X i)) ∧ ∀ k, k < n → ∀ r, gh p (fun i => X i r) k = F k r := by
  induction n with
  | zero => exact ⟨fun _ _ => 0, fun _ => Pol.const 0, fun k hk => by omega⟩
  | succ n ih =>
    obtain ⟨X, hX, e⟩ := ih
    cases n with
    | zero =>
      refine ⟨fun _ => F 0, fun _ => h.pol 0, fun k hk r => ?_⟩
      obtain rfl : k = 0 := by omega
      simp [Go.Proofs.Ytcjinlfgeljmkaa.gh, sumN, pow1]
    | succ n =>
      obtain ⟨d, hd, ed⟩ := h.step n
      -- what the first n + 1 components give, and what is wanted
      have hq : ∀ m, m ≤ n + 1 → ∃ q, Pol q ∧ ∀ r, sumN m (fun i => (p : Int) ^ i * X i r ^ (p ^ (n + 1 - i))) = sumN m (fun i => (p : Int) ^ i * fr p (X i) r ^ (p ^ (n - i))) + (p : Int) ^ (n + 1) * q r := by
        intro m
        induction m with
        | zero => exact fun _ => ⟨_, Pol.const 0, fun r => by simp [sumN]⟩
        | succ m ihm =>
          intro hm
          obtain ⟨q, hqp, eq⟩ := ihm (by omega)
          obtain ⟨g, hg, eg⟩ := frob_pow hp (hX m) (n - m)
          refine ⟨_, hqp.add hg, fun r => ?_⟩
          simp only [sumN]
          rw [eq r, show n + 1 - m = n - m + 1 by omega, eg r]
          have e2 : (p : Int) ^ (n + 1) = (p : Int) ^ m * (p : Int) ^ (n - m + 1) := by rw [← Int.pow_add]; congr 1; omega
          rw [e2]
          grind
      obtain ⟨q, hqp, eq⟩ := hq (n + 1) (Nat.le_refl _)
      refine ⟨fun i => if i = n + 1 then (fun r => d r - q r) else X i, fun i => ?_, fun k hk r => ?_⟩
      · by_cases hi : i = n + 1
        · simp only [hi, if_true]; exact hd.sub hqp
        · simp only [hi, if_false]; exact hX i
      · by_cases hk' : k < n + 1
        · rw [← e k hk' r]
          unfold Go.Proofs.Ytcjinlfgeljmkaa.gh
          apply sumN_congr
          intro i hi
          dsimp only
          rw [if_neg (by omega)]
        · obtain rfl : k = n + 1 := by omega
          unfold Go.Proofs.Ytcjinlfgeljmkaa.gh
          rw [show sumN (n + 1 + 1) (fun i => (p : Int) ^ i * (if i = n + 1 then (fun r => d r - q r) else X i) r ^ (p ^ (n + 1 - i))) =
            sumN (n + 1) (fun i => (p : Int) ^ i * (if i = n + 1 then (fun r => d r - q r) else X i) r ^ (p ^ (n + 1 - i))) + (p : Int) ^ (n + 1) * (if n + 1 = n + 1 then (fun r => d r - q r) else X (n + 1)) r ^ (p ^ (n + 1 - (n + 1))) from rfl]
          rw [sumN_congr (g := fun i => (p : Int) ^ i * X i r ^ (p ^ (n + 1 - i))) (fun i hi => by rw [if_neg (by omega)]), eq r, if_pos rfl, Nat.sub_self, Nat.pow_zero, Int.pow_succ (d r - q r), Int.pow_zero, Int.one_mul, ed r]
          have ee := e n (by omega) (fun i => r i ^ p)
          have : fr p (F n) r = sumN (n + 1) (fun i => (p : Int) ^ i * fr p (X i) r ^ (p ^ (n - i))) := by
            show F n (fun i => r i ^ p) = _
            rw [← ee]; rfl
          rw [this]
          grind

theorem gh_inj {p : Nat} (hp : P4 p) {x y : Nat → Int} (n : Nat) (h : ∀ k, k < n → gh p x k = gh p y k) : ∀ k, k < n → x k = y k := by
  intro k
  induction k using Nat.strongRecOn with
  | _ k ih =>
    intro hk
    have h1 := h k hk
    unfold gh at h1
    rw [show sumN (k + 1) (fun i => (p : Int) ^ i * x i ^ (p ^ (k - i))) = sumN k (fun i => (p : Int) ^ i * x i ^ (p ^ (k - i))) + (p : Int) ^ k * x k ^ (p ^ (k - k)) from rfl,
      show sumN (k + 1) (fun i => (p : Int) ^ i * y i ^ (p ^ (k - i))) = sumN k (fun i => (p : Int) ^ i * y i ^ (p ^ (k - i))) + (p : Int) ^ k * y k ^ (p ^ (k - k)) from rfl,
      sumN_congr (g := fun i => (p : Int) ^ i * y i ^ (p ^ (k - i))) (fun i hi => by rw [ih i hi (by omega)])] at h1
    have h2 : (p : Int) ^ k * x k = (p : Int) ^ k * y k := by
      simp only [Nat.sub_self, Nat.pow_zero, Int.pow_succ, Int.pow_zero, Int.one_mul] at h1
      omega
    have hpos : 1 ≤ (p : Int) ^ k := pow_pos' (by rcases hp with rfl | rfl | rfl | rfl <;> decide) k
    exact Int.eq_of_mul_eq_mul_left (by omega) h2

end Go.Proofs.Ytcjinlfgeljmkaa

/- Vectors from ghosts, as both programs reckon them. No program stands here. -/
set_option linter.unusedSimpArgs false
set_option linter.unusedVariables false
namespace Go.Proofs.Ytcjinlfgeljmkaa

def at0 (xs : List Int) (i : Nat) : Int := xs.getD i 0
theorem at0_get {xs : List Int} {i : Nat} (h : i < xs.length) : at0 xs i = xs[i] := by simp [at0, List.getD, h]
theorem at0_app {xs ys : List Int} {i : Nat} (h : i < xs.length) : at0 (xs ++ ys) i = at0 xs i := by simp [at0, List.getD, List.getElem?_append_left h]
theorem at0_last (xs : List Int) (y : Int) : at0 (xs ++ [y]) xs.length = y := by simp [at0, List.getD]

def below_sum (p : Nat) (s : List Int) (k : Nat) : Int := sumN k (fun i => (p : Int) ^ i * at0 s i ^ (p ^ (k - i)))
def nextC (W : Int) (p : Nat) (s : List Int) (g : Int) : Int := (g - below_sum p s s.length) % W / (p : Int) ^ s.length
def fromL (W : Int) (p : Nat) (gs : List Int) : List Int := gs.foldl (fun s g => s ++ [nextC W p s g]) []

theorem fromL_snoc (W : Int) (p : Nat) (gs : List Int) (g : Int) : fromL W p (gs ++ [g]) = fromL W p gs ++ [nextC W p (fromL W p gs) g] := by simp [fromL]
theorem fromL_len (W : Int) (p : Nat) (gs : List Int) : (fromL W p gs).length = gs.length := by
  have : ∀ (l s : List Int), (l.foldl (fun s g => s ++ [nextC W p s g]) s).length = s.length + l.length := by
    intro l
    induction l with
    | nil => intro s; simp
    | cons g l ih => intro s; simp only [List.foldl_cons]; rw [ih]; simp; omega
  simpa [fromL] using this gs []
theorem fromL_take (W : Int) (p : Nat) (gs : List Int) {k : Nat} (hk : k < gs.length) : fromL W p (gs.take (k + 1)) = fromL W p (gs.take k) ++ [nextC W p (fromL W p (gs.take k)) gs[k]] := by
  rw [List.take_succ_eq_append_getElem hk, fromL_snoc]

theorem gh_eq (p : Nat) (x : Nat → Int) (k : Nat) : gh p x k = sumN k (fun i => (p : Int) ^ i * x i ^ (p ^ (k - i))) + (p : Int) ^ k * x k := by
  show sumN k (fun i => (p : Int) ^ i * x i ^ (p ^ (k - i))) + (p : Int) ^ k * x k ^ (p ^ (k - k)) = _
  rw [Nat.sub_self, Nat.pow_zero, pow1]

theorem pow_cong {a b m : Int} (h : a % m = b % m) (k : Nat) : a ^ k % m = b ^ k % m := by rw [← pow_mod, h, pow_mod]

theorem mulp_cong {a b P V : Int} (h : a % V = b % V) : (P * a) % (P * V) = (P * b) % (P * V) := by
  have h1 : (a - b) % V = 0 := by rw [Int.sub_emod, h, ← Int.sub_emod]; simp
  obtain ⟨q, hq⟩ := Int.dvd_of_emod_eq_zero h1
  have : P * a = P * b + (P * V) * q := by grind
  rw [this, Int.add_mul_emod_self_left]

theorem from_ok {p : Nat} (hp : P4 p) {M : Int} (hM : 0 < M) {e : Nat} (x : Nat → Int) (gs : List Int) (hn : gs.length ≤ e + 1)
    (hg : ∀ k (hk : k < gs.length), gs[k] % (M * (p : Int) ^ e) = gh p x k % (M * (p : Int) ^ e)) :
    ∀ i, i < gs.length → at0 (fromL (M * (p : Int) ^ e) p gs) i = x i % (M * (p : Int) ^ (e - i)) := by
  have hp1 : 1 ≤ (p : Int) := by rcases hp with rfl | rfl | rfl | rfl <;> decide
  -- for beginnings of the list
  have key : ∀ n, n ≤ gs.length → ∀ i, i < n → at0 (fromL (M * (p : Int) ^ e) p (gs.take n)) i = x i % (M * (p : Int) ^ (e - i)) := by
    intro n
    induction n with
    | zero => intro _ i hi; omega
    | succ n ih =>
      intro hn1 i hi
      have ih' := ih (by omega)
      rw [fromL_take _ _ _ (by omega : n < gs.length)]
      have hl : (fromL (M * (p : Int) ^ e) p (gs.take n)).length = n := by rw [fromL_len]; simp; omega
      by_cases hin : i < n
      · rw [at0_app (by omega)]; exact ih' i hin
      · obtain rfl : i = n := by omega
        generalize fromL (M * (p : Int) ^ e) p (gs.take i) = s at *
        subst hl
        rw [at0_last]
        unfold nextC
        have hW : M * (p : Int) ^ e = (p : Int) ^ s.length * (M * (p : Int) ^ (e - s.length)) := by
          have : (p : Int) ^ e = (p : Int) ^ s.length * (p : Int) ^ (e - s.length) := by rw [← Int.pow_add]; congr 1; omega
          rw [this]; grind
        have hb : below_sum p s s.length % (M * (p : Int) ^ e) = sumN s.length (fun i => (p : Int) ^ i * x i ^ (p ^ (s.length - i))) % (M * (p : Int) ^ e) := by
          unfold below_sum
          apply sumN_mod
          intro j hj
          have hWj : M * (p : Int) ^ e = (p : Int) ^ j * (M * (p : Int) ^ (e - j)) := by
            have : (p : Int) ^ e = (p : Int) ^ j * (p : Int) ^ (e - j) := by rw [← Int.pow_add]; congr 1; omega
            rw [this]; grind
          rw [hWj]
          apply mulp_cong
          apply pow_cong
          rw [ih' j hj]
          exact Int.emod_emod_of_dvd _ (Int.dvd_refl _)
        have h1 : (gs[s.length] - below_sum p s s.length) % (M * (p : Int) ^ e) = ((p : Int) ^ s.length * x s.length) % (M * (p : Int) ^ e) := by
          rw [Int.sub_emod, hg s.length (by omega), hb, ← Int.sub_emod, gh_eq]
          congr 1
          omega
        have hpp := pow_pos' hp1 s.length
        rw [h1, hW, Int.mul_emod_mul_of_pos _ _ (by omega), Int.mul_ediv_cancel_left _ (by omega)]
  intro i hi
  have := key gs.length (Nat.le_refl _) i hi
  rwa [List.take_length] at this

def FL (p : Nat) (M : Int) (n : Nat) (G : Nat → Int) : List Int := (fromL (M * (p : Int) ^ (n - 1)) p ((List.range n).map G)).map (· % M)
theorem FL_len (p : Nat) (M : Int) (n : Nat) (G : Nat → Int) : (FL p M n G).length = n := by simp [FL, fromL_len]

theorem map_range_ext {n : Nat} {xs : List Int} (hl : xs.length = n) {f : Nat → Int} (h : ∀ i, i < n → at0 xs i = f i) : xs = (List.range n).map f := by
  apply List.ext_getElem
  · simp [hl]
  · intro i h1 h2
    rw [← at0_get h1, h i (by omega)]
    simp

theorem from_eq {p : Nat} (hp : P4 p) {M : Int} (hM : 0 < M) {e : Nat} (x : Nat → Int) (gs : List Int) (hn : gs.length ≤ e + 1)
    (hg : ∀ k (hk : k < gs.length), gs[k] % (M * (p : Int) ^ e) = gh p x k % (M * (p : Int) ^ e)) :
    (fromL (M * (p : Int) ^ e) p gs).map (· % M) = (List.range gs.length).map (fun i => x i % M) := by
  apply map_range_ext
  · simp [fromL_len]
  · intro i hi
    have h1 := from_ok hp hM x gs hn hg i hi
    have hl : i < (fromL (M * (p : Int) ^ e) p gs).length := by rw [fromL_len]; exact hi
    rw [at0_get (by simpa using hl), List.getElem_map, ← at0_get hl, h1]
    exact Int.emod_emod_of_dvd _ ⟨(p : Int) ^ (e - i), rfl⟩

theorem FL_eq {p : Nat} (hp : P4 p) {M : Int} (hM : 0 < M) {n : Nat} (G : Nat → Int) (x : Nat → Int) (h : ∀ k, k < n → gh p x k = G k) : FL p M n G = (List.range n).map (fun i => x i % M) := by
  have := from_eq hp hM (e := n - 1) x ((List.range n).map G) (by simp; omega) (fun k hk => by simp at hk ⊢; rw [h k hk])
  simpa [FL] using this

theorem wide_eq {p : Nat} (hp : P4 p) {M : Int} (hM : 0 < M) {e : Nat} (G : Nat → Int) (gs : List Int) (hn : gs.length ≤ e + 1) (hx : ∃ x, ∀ k, k < gs.length → gh p x k = G k)
    (hg : ∀ k (hk : k < gs.length), gs[k] % (M * (p : Int) ^ e) = G k % (M * (p : Int) ^ e)) :
    (fromL (M * (p : Int) ^ e) p gs).map (· % M) = FL p M gs.length G := by
  obtain ⟨x, hx⟩ := hx
  rw [FL_eq hp hM G x hx]
  exact from_eq hp hM x gs hn (fun k hk => by rw [hg k hk, hx k hk])

theorem op_cong {p : Nat} (hp : P4 p) {M : Int} {F : Nat → (Nat → Int) → Int} (h : Gs p F) (n : Nat) {r s : Nat → Int} (hrs : ∀ i, r i % M = s i % M) {x y : Nat → Int}
    (hx : ∀ k, k < n → gh p x k = F k r) (hy : ∀ k, k < n → gh p y k = F k s) : ∀ i, i < n → x i % M = y i % M := by
  obtain ⟨X, hX, e⟩ := dwork hp h n
  intro i hi
  rw [gh_inj hp n (fun k hk => (hx k hk).trans (e k hk r).symm) i hi, gh_inj hp n (fun k hk => (hy k hk).trans (e k hk s).symm) i hi]
  exact (hX i).congr hrs

theorem op_ex {p : Nat} (hp : P4 p) {F : Nat → (Nat → Int) → Int} (h : Gs p F) (n : Nat) (r : Nat → Int) : ∃ x : Nat → Int, ∀ k, k < n → gh p x k = F k r := by
  obtain ⟨X, _, e⟩ := dwork hp h n
  exact ⟨fun i => X i r, fun k hk => e k hk r⟩

end Go.Proofs.Ytcjinlfgeljmkaa

/- Power series modulo a number, as lists: sums, products, compositions. No program stands here. -/
set_option linter.unusedSimpArgs false
set_option linter.unusedVariables false
namespace Go.Proofs.Ytcjinlfgeljmkaa

def mk (n : Nat) (f : Nat → Int) : List Int := (List.range n).map f
theorem some_at0 {xs : List Int} {k : Nat} (h : k < xs.length) : xs[k]? = some (at0 xs k) := by rw [at0_get h]; simp [h]
def conv (a b : Nat → Int) (k : Nat) : Int := sumN (k + 1) (fun i => a i * b (k - i))
theorem mem_at0 {xs : List Int} {k : Nat} (h : k < xs.length) : at0 xs k ∈ xs := by rw [at0_get h]; exact List.getElem_mem h
end Go.Proofs.Ytcjinlfgeljmkaa

/- Planes modulo a number, as tables. No program stands here. -/
set_option linter.unusedSimpArgs false
set_option linter.unusedVariables false
namespace Go.Proofs.Ytcjinlfgeljmkaa

end Go.Proofs.Ytcjinlfgeljmkaa

/- Products of planes modulo a number, as tables. No program stands here. -/
set_option linter.unusedSimpArgs false
set_option linter.unusedVariables false
namespace Go.Proofs.Ytcjinlfgeljmkaa

end Go.Proofs.Ytcjinlfgeljmkaa

/- Powers of series and planes; curves put into planes; a series of a plane, told by the plane's powers. No program stands here. -/
set_option linter.unusedSimpArgs false
set_option linter.unusedVariables false
namespace Go.Proofs.Ytcjinlfgeljmkaa

end Go.Proofs.Ytcjinlfgeljmkaa

/- Faults of a law, told by its table. No program stands here. -/
set_option linter.unusedSimpArgs false
set_option linter.unusedVariables false
namespace Go.Proofs.Ytcjinlfgeljmkaa

end Go.Proofs.Ytcjinlfgeljmkaa

/- The defects of a table, as they are added up. No program stands here. -/
set_option linter.unusedSimpArgs false
set_option linter.unusedVariables false
namespace Go.Proofs.Ytcjinlfgeljmkaa

end Go.Proofs.Ytcjinlfgeljmkaa

/- Where two tables agree; their first difference; the inverse of a law, one coefficient after the other. No program stands here. -/
set_option linter.unusedSimpArgs false
set_option linter.unusedVariables false
namespace Go.Proofs.Ytcjinlfgeljmkaa

end Go.Proofs.Ytcjinlfgeljmkaa

/- The table of a curve of x and a curve of y put into a plane, while it is made place by place. No program stands here. -/
set_option linter.unusedSimpArgs false
set_option linter.unusedVariables false
namespace Go.Proofs.Ytcjinlfgeljmkaa

end Go.Proofs.Ytcjinlfgeljmkaa

/- A region that draws its order, walked along one order: what only reads is taken first, though the region's last operation (number s) writes what is read. No program stands here. -/
set_option linter.unusedSimpArgs false
set_option linter.unusedVariables false
namespace Go.Proofs.Ytcjinlfgeljmkaa
open Go
section
variable {P : Program} {ops : Array Oper} {Q : Exit → Act → World → Prop} {md : Region.Mode} {S : World → Prop}

def wpAnyS (P : Program) (md : Region.Mode) (ops : Array Oper) (Q : Exit → Act → World → Prop) (S : World → Prop) (s : Nat) : Nat → Array Bool → Act → World → Prop
  | 0, listed, a, w => Region.ready md ops listed = [] ∧ Q .normal a w
  | fuel + 1, listed, a, w =>
    (Region.ready md ops listed = [] → Q .normal a w) ∧
    ∀ i ∈ Region.ready md ops listed, wpOp P ops Q i (fun a' w' => (i < s → S w') ∧ wpAnyS P md ops Q S s fuel (listed.setIfInBounds i true) a' w') a w

theorem wpAny_of_S {s : Nat} : ∀ (fuel : Nat) (listed : Array Bool) (a : Act) (w : World), wpAnyS P md ops Q S s fuel listed a w → wpAny P md ops Q fuel listed a w
  | 0, _, _, _, h => h
  | fuel + 1, _, _, _, h => ⟨h.1, fun i hi => wpOp_mono (fun a' w' h' => wpAny_of_S fuel _ a' w' h'.2) (h.2 i hi)⟩

def waitsB (md : Region.Mode) (ops : Array Oper) (s i : Nat) : Bool := match ops[s]? with
  | some o => o.after.any fun e => Region.binds md e && e.on == i
  | none => false
theorem waits_not {s i : Nat} {listed : Array Bool} (h : waitsB md ops s i = true) (hu : listed.getD i true = false) : s ∉ Region.ready md ops listed := by
  intro hs
  obtain ⟨-, o, ho, hall⟩ := mem_ready.1 hs
  unfold waitsB at h
  rw [ho] at h
  obtain ⟨e, he, hb⟩ := Array.any_eq_true'.1 h
  simp only [Bool.and_eq_true, beq_iff_eq] at hb
  have h1 := hall e he hb.1
  rw [hb.2] at h1
  rcases Nat.lt_or_ge i listed.size with h' | h'
  · simp [h'] at hu h1; rw [hu] at h1; cases h1
  · simp [Array.getElem?_eq_none h'] at h1

def waitsAll (md : Region.Mode) (ops : Array Oper) (s i : Nat) : Bool := (List.range ops.size).all fun j => decide (j < s) || waitsB md ops j i
theorem waitsAll_spec {s i : Nat} (h : waitsAll md ops s i = true) : ∀ j, s ≤ j → j < ops.size → waitsB md ops j i = true := by
  intro j h1 h2
  have := List.all_eq_true.1 h j (List.mem_range.2 h2)
  simp only [Bool.or_eq_true, decide_eq_true_eq] at this
  rcases this with h | h
  · omega
  · exact h

theorem wpAnyS_first {s i : Nat} {oi : Oper} {v : Value} (hi : ops[i]? = some oi) (hsel : ∀ (j : Nat) (o : Oper) cs b, ops[j]? = some o → o.op ≠ .select cs b) (his : i < s) (hw : ∀ j, s ≤ j → j < ops.size → waitsB md ops j i = true)
    (hQ : ∀ c a w, Q (.panic c) (a.put oi.dst v) w → Q (.panic c) a w) :
    ∀ (fuel : Nat) (listed : Array Bool) (a : Act) (w : World),
      (∀ j oj, ops[j]? = some oj → j ≠ i → listed.getD j true = false → (∀ e ∈ oj.after, Region.binds md e = true → e.on ≠ i) → oi.apart ops oj = true) →
      i ∈ Region.ready md ops listed → YieldsIf P ops S oi v a → S w →
      wpAnyS P md ops Q S s fuel (listed.setIfInBounds i true) (a.put oi.dst v) w → wpAnyS P md ops Q S s (fuel + 1) listed a w := by
  intro fuel
  induction fuel with
  | zero =>
    intro listed a w _ hr hy hS H
    refine ⟨fun h => (by rw [h] at hr; cases hr), fun j hj => ?_⟩
    by_cases hji : j = i
    · subst hji; exact hy.wpOp hi hS ⟨fun _ => hS, H⟩
    · have := ready_mono hj hji
      rw [H.1] at this
      cases this
  | succ fuel ih =>
    intro listed a w hfree hr hy hS H
    refine ⟨fun h => (by rw [h] at hr; cases hr), fun j hj => ?_⟩
    by_cases hji : j = i
    · subst hji; exact hy.wpOp hi hS ⟨fun _ => hS, H⟩
    · have h1 := H.2 j (ready_mono hj hji)
      obtain ⟨hjun, oj, hoj, hall⟩ := mem_ready.1 hj
      have hjs : j < s := Classical.byContradiction fun e => waits_not (hw j (by omega) (Array.getElem?_eq_some_iff.1 hoj).1) (mem_ready.1 hr).1 hj
      have hnot : ∀ e ∈ oj.after, Region.binds md e = true → e.on ≠ i := fun e he hb heq => by
        have h1 := hall e he hb
        have h0 := (mem_ready.1 hr).1
        rw [heq] at h1
        rcases Nat.lt_or_ge i listed.size with h' | h'
        · simp [h'] at h0 h1; rw [h0] at h1; cases h1
        · simp [Array.getElem?_eq_none h'] at h1
      have h2 := wpOp_putIf hoj (hfree j oj hoj hji hjun hnot) (fun cs b => hsel i oi cs b hi) (fun cs b => hsel j oj cs b hoj) hQ hy h1
      have hfree' : ∀ k ok, ops[k]? = some ok → k ≠ i → (listed.setIfInBounds j true).getD k true = false →
          (∀ e ∈ ok.after, Region.binds md e = true → e.on ≠ i) → oi.apart ops ok = true := fun k ok hk hki hun hno => by
        refine hfree k ok hk hki ?_ hno
        by_cases hjk : j = k
        · subst hjk; exact hjun
        · rw [getD_set_ne true hjk] at hun; exact hun
      refine wpOp_mono (fun a' w' h3 => ⟨fun _ => h3.2.1 hjs, ih (listed.setIfInBounds j true) a' w' hfree' (ready_mono hr (Ne.symm hji)) h3.1 (h3.2.1 hjs) ?_⟩) h2
      rw [Array.setIfInBounds_comm _ _ hji]
      exact h3.2.2

theorem wpAnyS_take {s i : Nat} {oi : Oper} {v : Value} {fuel : Nat} {listed : Array Bool} {a : Act} {w : World} (hi : ops[i]? = some oi)
    (hs : Region.noSelect ops = true) (hf : Region.free md ops listed i = true) (hr : (Region.ready md ops listed).contains i = true) (his : (decide (i < s) && waitsAll md ops s i) = true)
    (hQ : ∀ c a w, Q (.panic c) (a.put oi.dst v) w → Q (.panic c) a w) (hy : YieldsIf P ops S oi v a) (hS : S w)
    (h : wpAnyS P md ops Q S s fuel (listed.setIfInBounds i true) (a.put oi.dst v) w) : wpAnyS P md ops Q S s (fuel + 1) listed a w := by
  simp only [Bool.and_eq_true, decide_eq_true_eq] at his
  exact wpAnyS_first hi (Region.noSelect_spec hs) his.1 (waitsAll_spec his.2) hQ fuel listed a w (Region.free_spec hi hf) (by simpa using hr) hy hS h

theorem toL {i : Nat} {o : Oper} (h : ops.toList[i]? = some o) : ops[i]? = some o := by rw [← Array.getElem?_toList]; exact h
theorem wpAnyS_takeL {s i : Nat} {oi : Oper} {v : Value} {fuel : Nat} {listed : Array Bool} {a : Act} {w : World} (hi : ops.toList[i]? = some oi)
    (hs : Region.noSelect ops = true) (hf : Region.free md ops listed i = true) (hr : (Region.ready md ops listed).contains i = true) (his : (decide (i < s) && waitsAll md ops s i) = true)
    (hQ : ∀ c a w, Q (.panic c) (a.put oi.dst v) w → Q (.panic c) a w) (hy : YieldsIf P ops S oi v a) (hS : S w)
    (h : wpAnyS P md ops Q S s fuel (listed.setIfInBounds i true) (a.put oi.dst v) w) : wpAnyS P md ops Q S s (fuel + 1) listed a w :=
  wpAnyS_take (toL hi) hs hf hr his hQ hy hS h

theorem wpAnyS_one {s i : Nat} {o : Oper} {fuel : Nat} {listed : Array Bool} {a : Act} {w : World} (ho : ops[i]? = some o) (hr : Region.ready md ops listed = [i])
    (h : ∀ K' : Act → World → Prop, Shut (∀ a w, (i < s → S w) → wpAnyS P md ops Q S s fuel (listed.setIfInBounds i true) a w → K' a w) → if Region.wanted o (yielded ops a.tmps) = true then Oper.wp P o a w K' Q else K' (a.put o.dst undef) w) :
    wpAnyS P md ops Q S s (fuel + 1) listed a w :=
  ⟨fun h0 => absurd (hr ▸ h0) (by simp), fun j hj => by
    rw [hr] at hj
    obtain rfl : j = i := by simpa using hj
    exact wpOp_step ho (fun K' hK => h K' (fun a w hS hW => hK a w ⟨hS, hW⟩))⟩

theorem wpAnyS_oneL {s i : Nat} {o : Oper} {fuel : Nat} {listed : Array Bool} {a : Act} {w : World} (ho : ops.toList[i]? = some o) (hr : Region.ready md ops listed = [i])
    (h : ∀ K' : Act → World → Prop, Shut (∀ a w, (i < s → S w) → wpAnyS P md ops Q S s fuel (listed.setIfInBounds i true) a w → K' a w) → if Region.wanted o (yielded ops a.tmps) = true then Oper.wp P o a w K' Q else K' (a.put o.dst undef) w) :
    wpAnyS P md ops Q S s (fuel + 1) listed a w := wpAnyS_one (toL ho) hr h

theorem wpAnyS_done {s : Nat} {listed : Array Bool} {a : Act} {w : World} (hr : Region.ready md ops listed = []) (h : Q .normal a w) :
    ∀ fuel, wpAnyS P md ops Q S s fuel listed a w
  | 0 => ⟨hr, h⟩
  | _ + 1 => ⟨fun _ => h, by rw [hr]; simp⟩

theorem wp_region_S {id : Nat} {a : Act} {w : World} (s : Nat) (hm : P.follows .mixedOrders = true)
    (h : wpAnyS P .any ops Q S s ops.size (Array.replicate ops.size false) a w.drew) : (Code.region id ops true).wp P Q a w :=
  wp_region_any hm (wpAny_of_S _ _ _ _ h)
end
end Go.Proofs.Ytcjinlfgeljmkaa

/- A region that draws its order, walked along one order: what only reads is taken first; a condition S holds behind every operation but those that are exempt. No program stands here. -/
set_option linter.unusedSimpArgs false
set_option linter.unusedVariables false
namespace Go.Proofs.Ytcjinlfgeljmkaa
open Go
section
variable {P : Program} {ops : Array Oper} {Q : Exit → Act → World → Prop} {md : Region.Mode} {S : World → Prop} {ex : List Nat}

def wpAnyK (P : Program) (md : Region.Mode) (ops : Array Oper) (Q : Exit → Act → World → Prop) (S : World → Prop) (ex : List Nat) : Nat → Array Bool → Act → World → Prop
  | 0, listed, a, w => Region.ready md ops listed = [] ∧ Q .normal a w
  | fuel + 1, listed, a, w =>
    (Region.ready md ops listed = [] → Q .normal a w) ∧
    ∀ i ∈ Region.ready md ops listed, wpOp P ops Q i (fun a' w' => (ex.contains i = false → S w') ∧ wpAnyK P md ops Q S ex fuel (listed.setIfInBounds i true) a' w') a w

theorem wpAny_of_K : ∀ (fuel : Nat) (listed : Array Bool) (a : Act) (w : World), wpAnyK P md ops Q S ex fuel listed a w → wpAny P md ops Q fuel listed a w
  | 0, _, _, _, h => h
  | fuel + 1, _, _, _, h => ⟨h.1, fun i hi => wpOp_mono (fun a' w' h' => wpAny_of_K fuel _ a' w' h'.2) (h.2 i hi)⟩

def depL (md : Region.Mode) (ops : Array Oper) (i : Nat) : List Nat := (List.range ops.size).foldl (fun L j => if waitsB md ops j i || L.any (fun k => waitsB md ops j k) then j :: L else L) []
def lockB (md : Region.Mode) (ops : Array Oper) (ex : List Nat) (listed : Array Bool) (i : Nat) (L : List Nat) : Bool :=
  L.all (fun j => waitsB md ops j i || L.any (fun k => waitsB md ops j k)) && L.all (fun j => !listed.getD j true) && ex.all (fun j => listed.getD j false || L.contains j) && !ex.contains i
def Lock (md : Region.Mode) (ops : Array Oper) (ex : List Nat) (i : Nat) (L : List Nat) (listed : Array Bool) : Prop :=
  (∀ j ∈ L, waitsB md ops j i = true ∨ ∃ k ∈ L, waitsB md ops j k = true) ∧ (∀ j ∈ L, listed.getD j true = false) ∧ (∀ j ∈ ex, listed.getD j false = true ∨ j ∈ L) ∧ ex.contains i = false
theorem lock_of {i : Nat} {L : List Nat} {listed : Array Bool} (h : lockB md ops ex listed i L = true) : Lock md ops ex i L listed := by
  simp only [lockB, Bool.and_eq_true, List.all_eq_true, Bool.or_eq_true, List.any_eq_true, Bool.not_eq_true', List.contains_iff_mem] at h
  obtain ⟨⟨⟨h1, h2⟩, h3⟩, h4⟩ := h
  refine ⟨fun j hj => h1 j hj, h2, h3, ?_⟩
  simpa using h4
theorem Lock.out {i : Nat} {L : List Nat} {listed : Array Bool} (h : Lock md ops ex i L listed) (hi : listed.getD i true = false) {j : Nat} (hj : j ∈ Region.ready md ops listed) : j ∉ L := by
  intro hL
  rcases h.1 j hL with h1 | ⟨k, hk, h1⟩
  · exact waits_not h1 hi hj
  · exact waits_not h1 (h.2.1 k hk) hj
theorem Lock.set {i : Nat} {L : List Nat} {listed : Array Bool} (h : Lock md ops ex i L listed) {j : Nat} (hj : j ∉ L) : Lock md ops ex i L (listed.setIfInBounds j true) :=
  ⟨h.1, fun k hk => by rw [getD_set_ne true (show j ≠ k from fun e => hj (by rw [e]; exact hk))]; exact h.2.1 k hk, fun k hk => (h.2.2.1 k hk).imp getD_set_true id, h.2.2.2⟩
theorem Lock.keeps {i : Nat} {L : List Nat} {listed : Array Bool} (h : Lock md ops ex i L listed) (hi : listed.getD i true = false) {j : Nat} (hj : j ∈ Region.ready md ops listed) : ex.contains j = false := by
  cases e : ex.contains j
  · rfl
  · have hm : j ∈ ex := by simpa using e
    rcases h.2.2.1 j hm with h1 | h1
    · have h0 := (mem_ready.1 hj).1
      rcases Nat.lt_or_ge j listed.size with h' | h'
      · simp [h'] at h0 h1; rw [h0] at h1; cases h1
      · simp [Array.getElem?_eq_none h'] at h1
    · exact absurd h1 (h.out hi hj)

theorem not_on {i j : Nat} {oj : Oper} {listed : Array Bool} (hi : listed.getD i true = false) (hall : ∀ e ∈ oj.after, Region.binds md e = true → listed.getD e.on false = true) : ∀ e ∈ oj.after, Region.binds md e = true → e.on ≠ i := fun e he hb heq => by
  have h1 := hall e he hb
  rw [heq] at h1
  rcases Nat.lt_or_ge i listed.size with h' | h'
  · simp [h'] at hi h1; rw [hi] at h1; cases h1
  · simp [Array.getElem?_eq_none h'] at h1

theorem wpAnyK_first {i : Nat} {L : List Nat} {oi : Oper} {v : Value} (hi : ops[i]? = some oi) (hsel : ∀ (j : Nat) (o : Oper) cs b, ops[j]? = some o → o.op ≠ .select cs b)
    (hQ : ∀ c a w, Q (.panic c) (a.put oi.dst v) w → Q (.panic c) a w) :
    ∀ (fuel : Nat) (listed : Array Bool) (a : Act) (w : World),
      (∀ j oj, ops[j]? = some oj → j ≠ i → listed.getD j true = false → (∀ e ∈ oj.after, Region.binds md e = true → e.on ≠ i) → oi.apart ops oj = true) →
      Lock md ops ex i L listed → i ∈ Region.ready md ops listed → YieldsIf P ops S oi v a → S w →
      wpAnyK P md ops Q S ex fuel (listed.setIfInBounds i true) (a.put oi.dst v) w → wpAnyK P md ops Q S ex (fuel + 1) listed a w := by
  intro fuel
  induction fuel with
  | zero =>
    intro listed a w _ _ hr hy hS H
    refine ⟨fun h => (by rw [h] at hr; cases hr), fun j hj => ?_⟩
    by_cases hji : j = i
    · subst hji; exact hy.wpOp hi hS ⟨fun _ => hS, H⟩
    · have := ready_mono hj hji
      rw [H.1] at this
      cases this
  | succ fuel ih =>
    intro listed a w hfree hlock hr hy hS H
    refine ⟨fun h => (by rw [h] at hr; cases hr), fun j hj => ?_⟩
    by_cases hji : j = i
    · subst hji; exact hy.wpOp hi hS ⟨fun _ => hS, H⟩
    · have h1 := H.2 j (ready_mono hj hji)
      obtain ⟨hjun, oj, hoj, hall⟩ := mem_ready.1 hj
      have hiun := (mem_ready.1 hr).1
      have hjs := hlock.keeps hiun hj
      have hnot := not_on (j := j) hiun hall
      have h2 := wpOp_putIf hoj (hfree j oj hoj hji hjun hnot) (fun cs b => hsel i oi cs b hi) (fun cs b => hsel j oj cs b hoj) hQ hy h1
      have hfree' : ∀ k ok, ops[k]? = some ok → k ≠ i → (listed.setIfInBounds j true).getD k true = false →
          (∀ e ∈ ok.after, Region.binds md e = true → e.on ≠ i) → oi.apart ops ok = true := fun k ok hk hki hun hno => by
        refine hfree k ok hk hki ?_ hno
        by_cases hjk : j = k
        · subst hjk; exact hjun
        · rw [getD_set_ne true hjk] at hun; exact hun
      refine wpOp_mono (fun a' w' h3 => ⟨fun _ => h3.2.1 hjs, ih (listed.setIfInBounds j true) a' w' hfree' (hlock.set (hlock.out hiun hj)) (ready_mono hr (Ne.symm hji)) h3.1 (h3.2.1 hjs) ?_⟩) h2
      rw [Array.setIfInBounds_comm _ _ hji]
      exact h3.2.2

theorem wpAnyK_pure {i : Nat} {oi : Oper} {v : Value} (hi : ops[i]? = some oi) (hsel : ∀ (j : Nat) (o : Oper) cs b, ops[j]? = some o → o.op ≠ .select cs b)
    (hQ : ∀ c a w, Q (.panic c) (a.put oi.dst v) w → Q (.panic c) a w) (hex : ex.contains i = true) :
    ∀ (fuel : Nat) (listed : Array Bool) (a : Act) (w : World),
      (∀ j oj, ops[j]? = some oj → j ≠ i → listed.getD j true = false → (∀ e ∈ oj.after, Region.binds md e = true → e.on ≠ i) → oi.apart ops oj = true) →
      i ∈ Region.ready md ops listed → YieldsIf P ops (fun _ => True) oi v a →
      wpAnyK P md ops Q S ex fuel (listed.setIfInBounds i true) (a.put oi.dst v) w → wpAnyK P md ops Q S ex (fuel + 1) listed a w := by
  intro fuel
  induction fuel with
  | zero =>
    intro listed a w _ hr hy H
    refine ⟨fun h => (by rw [h] at hr; cases hr), fun j hj => ?_⟩
    by_cases hji : j = i
    · subst hji; exact hy.wpOp hi trivial ⟨fun h => absurd (hex.symm.trans h) (by decide), H⟩
    · have := ready_mono hj hji
      rw [H.1] at this
      cases this
  | succ fuel ih =>
    intro listed a w hfree hr hy H
    refine ⟨fun h => (by rw [h] at hr; cases hr), fun j hj => ?_⟩
    by_cases hji : j = i
    · subst hji; exact hy.wpOp hi trivial ⟨fun h => absurd (hex.symm.trans h) (by decide), H⟩
    · have h1 := H.2 j (ready_mono hj hji)
      obtain ⟨hjun, oj, hoj, hall⟩ := mem_ready.1 hj
      have hiun := (mem_ready.1 hr).1
      have hnot := not_on (j := j) hiun hall
      have h2 := wpOp_putIf hoj (hfree j oj hoj hji hjun hnot) (fun cs b => hsel i oi cs b hi) (fun cs b => hsel j oj cs b hoj) hQ hy h1
      have hfree' : ∀ k ok, ops[k]? = some ok → k ≠ i → (listed.setIfInBounds j true).getD k true = false →
          (∀ e ∈ ok.after, Region.binds md e = true → e.on ≠ i) → oi.apart ops ok = true := fun k ok hk hki hun hno => by
        refine hfree k ok hk hki ?_ hno
        by_cases hjk : j = k
        · subst hjk; exact hjun
        · rw [getD_set_ne true hjk] at hun; exact hun
      refine wpOp_mono (fun a' w' h3 => ⟨h3.2.1, ih (listed.setIfInBounds j true) a' w' hfree' (ready_mono hr (Ne.symm hji)) h3.1 ?_⟩) h2
      rw [Array.setIfInBounds_comm _ _ hji]
      exact h3.2.2

theorem wpAnyK_takeL {i : Nat} {oi : Oper} {v : Value} {fuel : Nat} {listed : Array Bool} {a : Act} {w : World} (hi : ops.toList[i]? = some oi)
    (hs : Region.noSelect ops = true) (hf : Region.free md ops listed i = true) (hr : (Region.ready md ops listed).contains i = true) (hl : lockB md ops ex listed i (depL md ops i) = true)
    (hQ : ∀ c a w, Q (.panic c) (a.put oi.dst v) w → Q (.panic c) a w) (hy : YieldsIf P ops S oi v a) (hS : S w)
    (h : wpAnyK P md ops Q S ex fuel (listed.setIfInBounds i true) (a.put oi.dst v) w) : wpAnyK P md ops Q S ex (fuel + 1) listed a w :=
  wpAnyK_first (toL hi) (Region.noSelect_spec hs) hQ fuel listed a w (Region.free_spec (toL hi) hf) (lock_of hl) (by simpa using hr) hy hS h
theorem wpAnyK_pureL {i : Nat} {oi : Oper} {v : Value} {fuel : Nat} {listed : Array Bool} {a : Act} {w : World} (hi : ops.toList[i]? = some oi)
    (hs : Region.noSelect ops = true) (hf : Region.free md ops listed i = true) (hr : (Region.ready md ops listed).contains i = true) (hex : ex.contains i = true)
    (hQ : ∀ c a w, Q (.panic c) (a.put oi.dst v) w → Q (.panic c) a w) (hy : YieldsIf P ops (fun _ => True) oi v a)
    (h : wpAnyK P md ops Q S ex fuel (listed.setIfInBounds i true) (a.put oi.dst v) w) : wpAnyK P md ops Q S ex (fuel + 1) listed a w :=
  wpAnyK_pure (toL hi) (Region.noSelect_spec hs) hQ hex fuel listed a w (Region.free_spec (toL hi) hf) (by simpa using hr) hy h
theorem wpAnyK_oneL {i : Nat} {o : Oper} {fuel : Nat} {listed : Array Bool} {a : Act} {w : World} (ho : ops.toList[i]? = some o) (hr : Region.ready md ops listed = [i])
    (h : ∀ K' : Act → World → Prop, Shut (∀ a w, (ex.contains i = false → S w) → wpAnyK P md ops Q S ex fuel (listed.setIfInBounds i true) a w → K' a w) → if Region.wanted o (yielded ops a.tmps) = true then Oper.wp P o a w K' Q else K' (a.put o.dst undef) w) :
    wpAnyK P md ops Q S ex (fuel + 1) listed a w :=
  ⟨fun h0 => absurd (hr ▸ h0) (by simp), fun j hj => by
    rw [hr] at hj
    obtain rfl : j = i := by simpa using hj
    exact wpOp_step (toL ho) (fun K' hK => h K' (fun a w hS hW => hK a w ⟨hS, hW⟩))⟩
theorem wpAnyK_two {i j : Nat} {o o' : Oper} {fuel : Nat} {listed : Array Bool} {a : Act} {w : World} (ho : ops.toList[i]? = some o) (ho' : ops.toList[j]? = some o') (hr : Region.ready md ops listed = [i, j])
    (h : ∀ K' : Act → World → Prop, Shut (∀ a w, (ex.contains i = false → S w) → wpAnyK P md ops Q S ex fuel (listed.setIfInBounds i true) a w → K' a w) → if Region.wanted o (yielded ops a.tmps) = true then Oper.wp P o a w K' Q else K' (a.put o.dst undef) w)
    (h' : ∀ K' : Act → World → Prop, Shut (∀ a w, (ex.contains j = false → S w) → wpAnyK P md ops Q S ex fuel (listed.setIfInBounds j true) a w → K' a w) → if Region.wanted o' (yielded ops a.tmps) = true then Oper.wp P o' a w K' Q else K' (a.put o'.dst undef) w) :
    wpAnyK P md ops Q S ex (fuel + 1) listed a w :=
  ⟨fun h0 => absurd (hr ▸ h0) (by simp), fun k hk => by
    rw [hr] at hk
    simp only [List.mem_cons, List.not_mem_nil, or_false] at hk
    rcases hk with rfl | rfl
    · exact wpOp_step (toL ho) (fun K' hK => h K' (fun a w hS hW => hK a w ⟨hS, hW⟩))
    · exact wpOp_step (toL ho') (fun K' hK => h' K' (fun a w hS hW => hK a w ⟨hS, hW⟩))⟩
theorem wpAnyK_done {listed : Array Bool} {a : Act} {w : World} (hr : Region.ready md ops listed = []) (h : Q .normal a w) :
    ∀ fuel, wpAnyK P md ops Q S ex fuel listed a w
  | 0 => ⟨hr, h⟩
  | _ + 1 => ⟨fun _ => h, by rw [hr]; simp⟩
theorem wp_region_K {id : Nat} {a : Act} {w : World} (ex : List Nat) (hm : P.follows .mixedOrders = true)
    (h : wpAnyK P .any ops Q S ex ops.size (Array.replicate ops.size false) a w.drew) : (Code.region id ops true).wp P Q a w :=
  wp_region_any hm (wpAny_of_K _ _ _ _ h)
end
end Go.Proofs.Ytcjinlfgeljmkaa

/- A region that draws its order: three or four numbers may come up. No program stands here. -/
set_option linter.unusedSimpArgs false
set_option linter.unusedVariables false
namespace Go.Proofs.Ytcjinlfgeljmkaa
open Go
section
variable {P : Program} {ops : Array Oper} {Q : Exit → Act → World → Prop} {md : Region.Mode} {S : World → Prop} {ex : List Nat}
end
end Go.Proofs.Ytcjinlfgeljmkaa
