/- Witt vectors of whole numbers, in plain arithmetic: polynomials with whole coefficients, the lift of the Frobenius, and the vector that has given ghosts. No program stands here. -/
import Derived.Test.YtflebfmkgmhccaaZm
set_option linter.unusedSimpArgs false
set_option linter.unusedVariables false
namespace Go.Proofs.Ytflebfmkgmhccaa

/-- The sum of the first n values of f. -/
def sumN : Nat → (Nat → Int) → Int
  | 0, _ => 0
  | n + 1, f => sumN n f + f n
theorem sumN_congr {n : Nat} {f g : Nat → Int} (h : ∀ i, i < n → f i = g i) : sumN n f = sumN n g := by
  induction n with
  | zero => rfl
  | succ n ih => simp only [sumN]; rw [ih (fun i hi => h i (by omega)), h n (by omega)]
theorem sumN_add (n : Nat) (f g : Nat → Int) : sumN n (fun i => f i + g i) = sumN n f + sumN n g := by
  induction n with
  | zero => rfl
  | succ n ih => simp only [sumN]; rw [ih]; omega
theorem sumN_mulc (n : Nat) (f : Nat → Int) (c : Int) : sumN n (fun i => c * f i) = c * sumN n f := by
  induction n with
  | zero => simp [sumN]
  | succ n ih => simp only [sumN]; rw [ih, Int.mul_add]
theorem sumN_mod {n : Nat} {f g : Nat → Int} {m : Int} (h : ∀ i, i < n → f i % m = g i % m) : sumN n f % m = sumN n g % m := by
  induction n with
  | zero => rfl
  | succ n ih => simp only [sumN]; rw [Int.add_emod, ih (fun i hi => h i (by omega)), h n (by omega), ← Int.add_emod]

/-- Functions of integers that polynomials with whole coefficients give. -/
inductive Pol : ((Nat → Int) → Int) → Prop
  | var (i : Nat) : Pol (fun r => r i)
  | const (c : Int) : Pol (fun _ => c)
  | add {f g : (Nat → Int) → Int} : Pol f → Pol g → Pol (fun r => f r + g r)
  | mul {f g : (Nat → Int) → Int} : Pol f → Pol g → Pol (fun r => f r * g r)

theorem Pol.pow {f : (Nat → Int) → Int} (h : Pol f) (k : Nat) : Pol (fun r => f r ^ k) := by
  induction k with
  | zero => simp only [Int.pow_zero]; exact Pol.const 1
  | succ k ih => simp only [Int.pow_succ]; exact Pol.mul ih h
theorem Pol.neg {f : (Nat → Int) → Int} (h : Pol f) : Pol (fun r => - f r) := by
  have : Pol (fun r => (-1) * f r) := .mul (.const (-1)) h
  have e : (fun r => - f r) = fun r => (-1) * f r := by funext r; omega
  rw [e]; exact this
theorem Pol.sub {f g : (Nat → Int) → Int} (h : Pol f) (k : Pol g) : Pol (fun r => f r - g r) := (Pol.add h k.neg : Pol (fun r => f r + - g r))
theorem Pol.sum {F : Nat → (Nat → Int) → Int} (h : ∀ i, Pol (F i)) (n : Nat) : Pol (fun r => sumN n (fun i => F i r)) := by
  induction n with
  | zero => exact Pol.const 0
  | succ n ih => exact Pol.add ih (h n)

/-- The lift of the Frobenius: each variable is raised to the power p. -/
def fr (p : Nat) (f : (Nat → Int) → Int) : (Nat → Int) → Int := fun r => f (fun i => r i ^ p)
theorem Pol.fr {p : Nat} {f : (Nat → Int) → Int} (h : Pol f) : Pol (fr p f) := by
  induction h with
  | var i => exact (Pol.var i).pow p
  | const c => exact Pol.const c
  | add _ _ ih1 ih2 => exact Pol.add ih1 ih2
  | mul _ _ ih1 ih2 => exact Pol.mul ih1 ih2

/-- A polynomial takes numbers that agree modulo m to such. -/
theorem Pol.congr {f : (Nat → Int) → Int} (h : Pol f) {m : Int} {r s : Nat → Int} (hrs : ∀ i, r i % m = s i % m) : f r % m = f s % m := by
  induction h with
  | var i => exact hrs i
  | const c => rfl
  | add _ _ ih1 ih2 => simp only []; rw [Int.add_emod, ih1, ih2, ← Int.add_emod]
  | mul _ _ ih1 ih2 => simp only []; rw [Int.mul_emod, ih1, ih2, ← Int.mul_emod]

def P4 (p : Nat) : Prop := p = 2 ∨ p = 3 ∨ p = 5 ∨ p = 7

theorem fermat {p : Nat} (hp : P4 p) (c : Int) : ∃ h : Int, c ^ p = c + p * h := by
  have key : (c ^ p - c) % (p : Int) = 0 := by
    have h1 : c ^ p % (p : Int) = (c % (p : Int)) ^ p % (p : Int) := (pow_mod c p p).symm
    have h2 : 0 ≤ c % (p : Int) := Int.emod_nonneg _ (by rcases hp with rfl | rfl | rfl | rfl <;> decide)
    have h3 : c % (p : Int) < p := Int.emod_lt_of_pos _ (by rcases hp with rfl | rfl | rfl | rfl <;> decide)
    rw [Int.sub_emod, h1]
    generalize c % (p : Int) = d at h2 h3
    rcases hp with rfl | rfl | rfl | rfl
    · have : d = 0 ∨ d = 1 := by omega
      rcases this with rfl | rfl <;> decide
    · have : d = 0 ∨ d = 1 ∨ d = 2 := by omega
      rcases this with rfl | rfl | rfl <;> decide
    · have : d = 0 ∨ d = 1 ∨ d = 2 ∨ d = 3 ∨ d = 4 := by omega
      rcases this with rfl | rfl | rfl | rfl | rfl <;> decide
    · have : d = 0 ∨ d = 1 ∨ d = 2 ∨ d = 3 ∨ d = 4 ∨ d = 5 ∨ d = 6 := by omega
      rcases this with rfl | rfl | rfl | rfl | rfl | rfl | rfl <;> decide
  obtain ⟨h, hh⟩ := Int.dvd_of_emod_eq_zero key
  exact ⟨h, by omega⟩

/-- The power p of a sum. -/
theorem pow_add_p {p : Nat} (hp : P4 p) {f g : (Nat → Int) → Int} (hf : Pol f) (hg : Pol g) : ∃ s, Pol s ∧ ∀ r, (f r + g r) ^ p = f r ^ p + g r ^ p + p * s r := by
  rcases hp with rfl | rfl | rfl | rfl
  · exact ⟨_, hf.mul hg, fun r => by grind⟩
  · exact ⟨_, ((hf.pow 2).mul hg).add (hf.mul (hg.pow 2)), fun r => by grind⟩
  · exact ⟨_, (((hf.pow 4).mul hg).add (((Pol.const 2).mul (hf.pow 3)).mul (hg.pow 2))).add ((((Pol.const 2).mul (hf.pow 2)).mul (hg.pow 3)).add (hf.mul (hg.pow 4))), fun r => by grind⟩
  · exact ⟨_, ((((hf.pow 6).mul hg).add (((Pol.const 3).mul (hf.pow 5)).mul (hg.pow 2))).add ((((Pol.const 5).mul (hf.pow 4)).mul (hg.pow 3)).add (((Pol.const 5).mul (hf.pow 3)).mul (hg.pow 4)))).add ((((Pol.const 3).mul (hf.pow 2)).mul (hg.pow 5)).add (hf.mul (hg.pow 6))), fun r => by grind⟩

theorem frob {p : Nat} (hp : P4 p) {f : (Nat → Int) → Int} (h : Pol f) : ∃ g, Pol g ∧ ∀ r, f r ^ p = fr p f r + p * g r := by
  induction h with
  | var i => exact ⟨_, Pol.const 0, fun r => by simp [fr]⟩
  | const c =>
    obtain ⟨h, hh⟩ := fermat hp c
    exact ⟨_, Pol.const h, fun r => hh⟩
  | @add f g hf hg ih1 ih2 =>
    obtain ⟨u, hu, eu⟩ := ih1
    obtain ⟨v, hv, ev⟩ := ih2
    obtain ⟨s, hs, es⟩ := pow_add_p hp hf hg
    refine ⟨_, (hu.add hv).add hs, fun r => ?_⟩
    simp only []
    rw [es r, eu r, ev r]
    show _ = fr p f r + fr p g r + _
    grind
  | @mul f g hf hg ih1 ih2 =>
    obtain ⟨u, hu, eu⟩ := ih1
    obtain ⟨v, hv, ev⟩ := ih2
    refine ⟨_, ((hf.fr (p := p)).mul hv).add ((hu.mul (hg.fr (p := p))).add ((Pol.const (p : Int)).mul (hu.mul hv))), fun r => ?_⟩
    simp only []
    rw [Int.mul_pow, eu r, ev r]
    show _ = fr p f r * fr p g r + _
    grind

theorem powstep {p : Nat} (hp : P4 p) {g h : (Nat → Int) → Int} (hg : Pol g) (hh : Pol h) (q : Int) : ∃ s, Pol s ∧ ∀ r, (g r + p * q * h r) ^ p = g r ^ p + p * (p * q) * s r := by
  have hq := Pol.const q
  rcases hp with rfl | rfl | rfl | rfl
  · exact ⟨_, (hg.mul hh).add (hq.mul (hh.pow 2)), fun r => by grind⟩
  · exact ⟨_, ((hg.pow 2).mul hh).add (hq.mul (((Pol.const 3).mul (hg.mul (hh.pow 2))).add (((Pol.const 3).mul hq).mul (hh.pow 3)))), fun r => by grind⟩
  · exact ⟨_, ((hg.pow 4).mul hh).add (hq.mul ((((Pol.const 10).mul ((hg.pow 3).mul (hh.pow 2))).add (((Pol.const 50).mul hq).mul ((hg.pow 2).mul (hh.pow 3)))).add ((((Pol.const 125).mul (hq.pow 2)).mul (hg.mul (hh.pow 4))).add (((Pol.const 125).mul (hq.pow 3)).mul (hh.pow 5))))), fun r => by grind⟩
  · exact ⟨_, ((hg.pow 6).mul hh).add (hq.mul ((((Pol.const 21).mul ((hg.pow 5).mul (hh.pow 2))).add (((Pol.const 245).mul hq).mul ((hg.pow 4).mul (hh.pow 3)))).add (((((Pol.const 1715).mul (hq.pow 2)).mul ((hg.pow 3).mul (hh.pow 4))).add (((Pol.const 7203).mul (hq.pow 3)).mul ((hg.pow 2).mul (hh.pow 5)))).add ((((Pol.const 16807).mul (hq.pow 4)).mul (hg.mul (hh.pow 6))).add (((Pol.const 16807).mul (hq.pow 5)).mul (hh.pow 7)))))), fun r => by grind⟩

theorem frob_pow {p : Nat} (hp : P4 p) {f : (Nat → Int) → Int} (h : Pol f) (j : Nat) : ∃ g, Pol g ∧ ∀ r, f r ^ (p ^ (j + 1)) = fr p f r ^ (p ^ j) + (p : Int) ^ (j + 1) * g r := by
  induction j with
  | zero =>
    obtain ⟨g, hg, e⟩ := frob hp h
    exact ⟨g, hg, fun r => by simpa [pow1] using e r⟩
  | succ j ih =>
    obtain ⟨g, hg, e⟩ := ih
    obtain ⟨s, hs, es⟩ := powstep hp ((h.fr (p := p)).pow (p ^ j)) hg ((p : Int) ^ j)
    refine ⟨s, hs, fun r => ?_⟩
    rw [Nat.pow_succ, Int.pow_mul, e r, Nat.pow_succ, Int.pow_mul]
    have := es r
    have e1 : (p : Int) ^ (j + 1) = p * (p : Int) ^ j := by rw [Int.pow_succ, Int.mul_comm]
    rw [e1, this, Int.pow_succ, e1]
    grind

/-- The ghost number k of a vector. -/
def gh (p : Nat) (x : Nat → Int) (k : Nat) : Int := sumN (k + 1) (fun i => (p : Int) ^ i * x i ^ (p ^ (k - i)))

theorem gh_succ (p : Nat) (x : Nat → Int) (k : Nat) : gh p x (k + 1) = gh p (fun i => x i ^ p) k + (p : Int) ^ (k + 1) * x (k + 1) := by
  unfold gh
  rw [show sumN (k + 1 + 1) (fun i => (p : Int) ^ i * x i ^ (p ^ (k + 1 - i))) = sumN (k + 1) (fun i => (p : Int) ^ i * x i ^ (p ^ (k + 1 - i))) + (p : Int) ^ (k + 1) * x (k + 1) ^ (p ^ (k + 1 - (k + 1))) from rfl]
  congr 1
  · apply sumN_congr
    intro i hi
    rw [show k + 1 - i = (k - i) + 1 by omega, Nat.pow_succ, Nat.mul_comm, Int.pow_mul]
  · simp [pow1]

/-- Sequences that have the shape of ghosts. -/
structure Gs (p : Nat) (F : Nat → (Nat → Int) → Int) : Prop where
  pol : ∀ k, Pol (F k)
  step : ∀ k, ∃ d, Pol d ∧ ∀ r, F (k + 1) r = fr p (F k) r + (p : Int) ^ (k + 1) * d r

theorem Gs.gh (p : Nat) (v : Nat → Nat) : Gs p (fun k r => gh p (fun i => r (v i)) k) :=
  ⟨fun k => Pol.sum (fun i => (Pol.const _).mul ((Pol.var (v i)).pow _)) (k + 1),
   fun k => ⟨_, Pol.var (v (k + 1)), fun r => gh_succ p (fun i => r (v i)) k⟩⟩
theorem Gs.const (p : Nat) (c : Int) : Gs p (fun _ _ => c) := ⟨fun _ => Pol.const c, fun k => ⟨_, Pol.const 0, fun r => by simp [fr]⟩⟩
theorem Gs.add {p : Nat} {F G : Nat → (Nat → Int) → Int} (h : Gs p F) (k : Gs p G) : Gs p (fun j r => F j r + G j r) :=
  ⟨fun j => (h.pol j).add (k.pol j), fun j => by
    obtain ⟨d, hd, e⟩ := h.step j
    obtain ⟨d', hd', e'⟩ := k.step j
    exact ⟨_, hd.add hd', fun r => by show F (j+1) r + G (j+1) r = (fr p (F j) r + fr p (G j) r) + _; rw [e r, e' r]; grind⟩⟩
theorem Gs.mul {p : Nat} {F G : Nat → (Nat → Int) → Int} (h : Gs p F) (k : Gs p G) : Gs p (fun j r => F j r * G j r) :=
  ⟨fun j => (h.pol j).mul (k.pol j), fun j => by
    obtain ⟨d, hd, e⟩ := h.step j
    obtain ⟨d', hd', e'⟩ := k.step j
    exact ⟨_, (((h.pol j).fr (p := p)).mul hd').add ((hd.mul ((k.pol j).fr (p := p))).add ((Pol.const ((p : Int) ^ (j + 1))).mul (hd.mul hd'))), fun r => by
      show F (j+1) r * G (j+1) r = (fr p (F j) r * fr p (G j) r) + _
      rw [e r, e' r]; grind⟩⟩
theorem Gs.neg {p : Nat} {F : Nat → (Nat → Int) → Int} (h : Gs p F) : Gs p (fun j r => - F j r) := by
  have := (Gs.const p (-1)).mul h
  have e : (fun (j : Nat) r => - F j r) = fun j r => (-1) * F j r := by funext j r; omega
  rw [e]; exact this
theorem Gs.next {p : Nat} {F : Nat → (Nat → Int) → Int} (h : Gs p F) : Gs p (fun j r => F (j + 1) r) :=
  ⟨fun j => h.pol (j + 1), fun j => by
    obtain ⟨d, hd, e⟩ := h.step (j + 1)
    exact ⟨_, (Pol.const (p : Int)).mul hd, fun r => by rw [e r, Int.pow_succ]; grind⟩⟩

/-- Dwork's lemma: such a sequence is that of the ghosts of a vector of polynomials. -/
theorem dwork {p : Nat} (hp : P4 p) {F : Nat → (Nat → Int) → Int} (h : Gs p F) (n : Nat) :
    ∃ X : Nat → (Nat → Int) → Int, (∀ i, Pol (X i)) ∧ ∀ k, k < n → ∀ r, gh p (fun i => X i r) k = F k r := by
  induction n with
  | zero => exact ⟨fun _ _ => 0, fun _ => Pol.const 0, fun k hk => by omega⟩
  | succ n ih =>
    obtain ⟨X, hX, e⟩ := ih
    cases n with
    | zero =>
      refine ⟨fun _ => F 0, fun _ => h.pol 0, fun k hk r => ?_⟩
      obtain rfl : k = 0 := by omega
      simp [Go.Proofs.Ytflebfmkgmhccaa.gh, sumN, pow1]
    | succ n =>
      obtain ⟨d, hd, ed⟩ := h.step n
      -- what the first n + 1 components give, and what is wanted
      have hq : ∀ m, m ≤ n + 1 → ∃ q, Pol q ∧ ∀ r, sumN m (fun i => (p : Int) ^ i * X i r ^ (p ^ (n + 1 - i))) = sumN m (fun i => (p : Int) ^ i * fr p (X i) r ^ (p ^ (n - i))) + (p : Int) ^ (n + 1) * q r := by
        intro m
        induction m with
        | zero => exact fun _ => ⟨_, Pol.const 0, fun r => by simp [sumN]⟩
        | succ m ihm =>
          intro hm
          obtain ⟨q, hqp, eq⟩ := ihm (by omega)
          obtain ⟨g, hg, eg⟩ := frob_pow hp (hX m) (n - m)
          refine ⟨_, hqp.add hg, fun r => ?_⟩
          simp only [sumN]
          rw [eq r, show n + 1 - m = n - m + 1 by omega, eg r]
          have e2 : (p : Int) ^ (n + 1) = (p : Int) ^ m * (p : Int) ^ (n - m + 1) := by rw [← Int.pow_add]; congr 1; omega
          rw [e2]
          grind
      obtain ⟨q, hqp, eq⟩ := hq (n + 1) (Nat.le_refl _)
      refine ⟨fun i => if i = n + 1 then (fun r => d r - q r) else X i, fun i => ?_, fun k hk r => ?_⟩
      · by_cases hi : i = n + 1
        · simp only [hi, if_true]; exact hd.sub hqp
        · simp only [hi, if_false]; exact hX i
      · by_cases hk' : k < n + 1
        · rw [← e k hk' r]
          unfold Go.Proofs.Ytflebfmkgmhccaa.gh
          apply sumN_congr
          intro i hi
          dsimp only
          rw [if_neg (by omega)]
        · obtain rfl : k = n + 1 := by omega
          unfold Go.Proofs.Ytflebfmkgmhccaa.gh
          rw [show sumN (n + 1 + 1) (fun i => (p : Int) ^ i * (if i = n + 1 then (fun r => d r - q r) else X i) r ^ (p ^ (n + 1 - i))) =
            sumN (n + 1) (fun i => (p : Int) ^ i * (if i = n + 1 then (fun r => d r - q r) else X i) r ^ (p ^ (n + 1 - i))) + (p : Int) ^ (n + 1) * (if n + 1 = n + 1 then (fun r => d r - q r) else X (n + 1)) r ^ (p ^ (n + 1 - (n + 1))) from rfl]
          rw [sumN_congr (g := fun i => (p : Int) ^ i * X i r ^ (p ^ (n + 1 - i))) (fun i hi => by rw [if_neg (by omega)]), eq r, if_pos rfl, Nat.sub_self, Nat.pow_zero, Int.pow_succ (d r - q r), Int.pow_zero, Int.one_mul, ed r]
          have ee := e n (by omega) (fun i => r i ^ p)
          have : fr p (F n) r = sumN (n + 1) (fun i => (p : Int) ^ i * fr p (X i) r ^ (p ^ (n - i))) := by
            show F n (fun i => r i ^ p) = _
            rw [← ee]; rfl
          rw [this]
          grind

/-- The ghosts tell the vector. -/
theorem gh_inj {p : Nat} (hp : P4 p) {x y : Nat → Int} (n : Nat) (h : ∀ k, k < n → gh p x k = gh p y k) : ∀ k, k < n → x k = y k := by
  intro k
  induction k using Nat.strongRecOn with
  | _ k ih =>
    intro hk
    have h1 := h k hk
    unfold gh at h1
    rw [show sumN (k + 1) (fun i => (p : Int) ^ i * x i ^ (p ^ (k - i))) = sumN k (fun i => (p : Int) ^ i * x i ^ (p ^ (k - i))) + (p : Int) ^ k * x k ^ (p ^ (k - k)) from rfl,
      show sumN (k + 1) (fun i => (p : Int) ^ i * y i ^ (p ^ (k - i))) = sumN k (fun i => (p : Int) ^ i * y i ^ (p ^ (k - i))) + (p : Int) ^ k * y k ^ (p ^ (k - k)) from rfl,
      sumN_congr (g := fun i => (p : Int) ^ i * y i ^ (p ^ (k - i))) (fun i hi => by rw [ih i hi (by omega)])] at h1
    have h2 : (p : Int) ^ k * x k = (p : Int) ^ k * y k := by
      simp only [Nat.sub_self, Nat.pow_zero, Int.pow_succ, Int.pow_zero, Int.one_mul] at h1
      omega
    have hpos : 1 ≤ (p : Int) ^ k := pow_pos' (by rcases hp with rfl | rfl | rfl | rfl <;> decide) k
    exact Int.eq_of_mul_eq_mul_left (by omega) h2

end Go.Proofs.Ytflebfmkgmhccaa
