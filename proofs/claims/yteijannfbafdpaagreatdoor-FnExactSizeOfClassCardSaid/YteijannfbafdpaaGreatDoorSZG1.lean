/- Lemmas. -/
import Derived.WalkKit
import Derived.Deep.RegionHeld3
/- Plain arithmetic: remainders, powers. No program stands here. -/
set_option linter.unusedSimpArgs false
set_option linter.unusedVariables false
namespace Go.Proofs.YteijannfbafdpaaGreatDoor

theorem tmod_mod {n m : Int} : (n.tmod m + m) % m = n % m := by
  rw [Int.add_emod_right, Int.tmod_def]
  have := Int.sub_mul_emod_self_left n m (n.tdiv m)
  grind

theorem pow_mod (a m : Int) (k : Nat) : (a % m) ^ k % m = a ^ k % m := by
  induction k with
  | zero => simp [Int.pow_zero]
  | succ k ih => rw [Int.pow_succ, Int.pow_succ, Int.mul_emod, ih, Int.emod_emod_of_dvd _ (Int.dvd_refl m), ← Int.mul_emod]

theorem pow_pos' {p : Int} (hp : 1 ≤ p) (k : Nat) : 1 ≤ p ^ k := by
  induction k with
  | zero => simp
  | succ k ih => rw [Int.pow_succ]; exact Int.le_trans (by omega) (Int.mul_le_mul ih hp (by omega) (by omega))

theorem mul_lt_of {a b m : Int} (ha : 0 ≤ a) (hb : 0 ≤ b) (ha' : a < m) (hb' : b < m) : a * b ≤ (m - 1) * (m - 1) := Int.mul_le_mul (by omega) (by omega) hb (by omega)

theorem prod_fits {a b m : Int} (ha : 0 ≤ a) (hb : 0 ≤ b) (ha' : a < m) (hb' : b < m) (hm : m ≤ 3000000000) : 0 ≤ a * b ∧ a * b ≤ 9000000000000000000 := by
  have h := mul_lt_of ha hb ha' hb'
  have h2 : (m - 1) * (m - 1) ≤ 2999999999 * 2999999999 := Int.mul_le_mul (by omega) (by omega) (by omega) (by omega)
  exact ⟨Int.mul_nonneg ha hb, by omega⟩

theorem mod_lt' {a m : Int} (hm : 0 < m) : 0 ≤ a % m ∧ a % m < m := ⟨Int.emod_nonneg _ (by omega), Int.emod_lt_of_pos _ hm⟩

end Go.Proofs.YteijannfbafdpaaGreatDoor

/- Witt vectors of whole numbers, in plain arithmetic: polynomials with whole coefficients, the lift of the Frobenius, and the vector that has given ghosts. No program stands here. -/
set_option linter.unusedSimpArgs false
set_option linter.unusedVariables false
namespace Go.Proofs.YteijannfbafdpaaGreatDoor

def sumN : Nat → (Nat → Int) → Int
  | 0, _ => 0
  | n + 1, f => sumN n f + f n
theorem sumN_congr {n : Nat} {f g : Nat → Int} (h : ∀ i, i < n → f i = g i) : sumN n f = sumN n g := by
  induction n with
  | zero => rfl
  | succ n ih => simp only [sumN]; rw [ih (fun i hi => h i (by omega)), h n (by omega)]
theorem sumN_add (n : Nat) (f g : Nat → Int) : sumN n (fun i => f i + g i) = sumN n f + sumN n g := by
  induction n with
  | zero => rfl
  | succ n ih => simp only [sumN]; rw [ih]; omega
theorem sumN_mulc (n : Nat) (f : Nat → Int) (c : Int) : sumN n (fun i => c * f i) = c * sumN n f := by
  induction n with
  | zero => simp [sumN]
  | succ n ih => simp only [sumN]; rw [ih, Int.mul_add]
theorem sumN_mod {n : Nat} {f g : Nat → Int} {m : Int} (h : ∀ i, i < n → f i % m = g i % m) : sumN n f % m = sumN n g % m := by
  induction n with
  | zero => rfl
  | succ n ih => simp only [sumN]; rw [Int.add_emod, ih (fun i hi => h i (by omega)), h n (by omega), ← Int.add_emod]

inductive Pol : ((Nat → Int) → Int) → Prop
  | var (i : Nat) : Pol (fun r => r i)
  | const (c : Int) : Pol (fun _ => c)
  | add {f g : (Nat → Int) → Int} : Pol f → Pol g → Pol (fun r => f r + g r)
  | mul {f g : (Nat → Int) → Int} : Pol f → Pol g → Pol (fun r => f r * g r)

theorem Pol.pow {f : (Nat → Int) → Int} (h : Pol f) (k : Nat) : Pol (fun r => f r ^ k) := by
  induction k with
  | zero => simp only [Int.pow_zero]; exact Pol.const 1
  | succ k ih => simp only [Int.pow_succ]; exact Pol.mul ih h
theorem Pol.neg {f : (Nat → Int) → Int} (h : Pol f) : Pol (fun r => - f r) := by
  have : Pol (fun r => (-1) * f r) := .mul (.const (-1)) h
  have e : (fun r => - f r) = fun r => (-1) * f r := by funext r; omega
  rw [e]; exact this
theorem Pol.sub {f g : (Nat → Int) → Int} (h : Pol f) (k : Pol g) : Pol (fun r => f r - g r) := (Pol.add h k.neg : Pol (fun r => f r + - g r))
def fr (p : Nat) (f : (Nat → Int) → Int) : (Nat → Int) → Int := fun r => f (fun i => r i ^ p)
theorem Pol.fr {p : Nat} {f : (Nat → Int) → Int} (h : Pol f) : Pol (fr p f) := by
  induction h with
  | var i => exact (Pol.var i).pow p
  | const c => exact Pol.const c
  | add _ _ ih1 ih2 => exact Pol.add ih1 ih2
  | mul _ _ ih1 ih2 => exact Pol.mul ih1 ih2

theorem Pol.congr {f : (Nat → Int) → Int} (h : Pol f) {m : Int} {r s : Nat → Int} (hrs : ∀ i, r i % m = s i % m) : f r % m = f s % m := by
  induction h with
  | var i => exact hrs i
  | const c => rfl
  | add _ _ ih1 ih2 => simp only []; rw [Int.add_emod, ih1, ih2, ← Int.add_emod]
  | mul _ _ ih1 ih2 => simp only []; rw [Int.mul_emod, ih1, ih2, ← Int.mul_emod]

def P4 (p : Nat) : Prop := p = 2 ∨ p = 3 ∨ p = 5 ∨ p = 7

theorem fermat {p : Nat} (hp : P4 p) (c : Int) : ∃ h : Int, c ^ p = c + p * h := by
  have key : (c ^ p - c) % (p : Int) = 0 := by
    have h1 : c ^ p % (p : Int) = (c % (p : Int)) ^ p % (p : Int) := (pow_mod c p p).symm
    have h2 : 0 ≤ c % (p : Int) := Int.emod_nonneg _ (by rcases hp with rfl | rfl | rfl | rfl <;> decide)
    have h3 : c % (p : Int) < p := Int.emod_lt_of_pos _ (by rcases hp with rfl | rfl | rfl | rfl <;> decide)
    rw [Int.sub_emod, h1]
    generalize c % (p : Int) = d at h2 h3
    rcases hp with rfl | rfl | rfl | rfl
    · have : d = 0 ∨ d = 1 := by omega
      rcases this with rfl | rfl <;> decide
    · have : d = 0 ∨ d = 1 ∨ d = 2 := by omega
      rcases this with rfl | rfl | rfl <;> decide
    · have : d = 0 ∨ d = 1 ∨ d = 2 ∨ d = 3 ∨ d = 4 := by omega
      rcases this with rfl | rfl | rfl | rfl | rfl <;> decide
    · have : d = 0 ∨ d = 1 ∨ d = 2 ∨ d = 3 ∨ d = 4 ∨ d = 5 ∨ d = 6 := by omega
      rcases this with rfl | rfl | rfl | rfl | rfl | rfl | rfl <;> decide
  obtain ⟨h, hh⟩ := Int.dvd_of_emod_eq_zero key
  exact ⟨h, by omega⟩

structure Gs (p : Nat) (F : Nat → (Nat → Int) → Int) : Prop where
  pol : ∀ k, Pol (F k)
  step : ∀ k, ∃ d, Pol d ∧ ∀ r, F (k + 1) r = fr p (F k) r + (p : Int) ^ (k + 1) * d r

theorem Gs.const (p : Nat) (c : Int) : Gs p (fun _ _ => c) := ⟨fun _ => Pol.const c, fun k => ⟨_, Pol.const 0, fun r => by simp [fr]⟩⟩
theorem Gs.add {p : Nat} {F G : Nat → (Nat → Int) → Int} (h : Gs p F) (k : Gs p G) : Gs p (fun j r => F j r + G j r) :=
  ⟨fun j => (h.pol j).add (k.pol j), fun j => by
    obtain ⟨d, hd, e⟩ := h.step j
    obtain ⟨d', hd', e'⟩ := k.step j
    exact ⟨_, hd.add hd', fun r => by show F (j+1) r + G (j+1) r = (fr p (F j) r + fr p (G j) r) + _; rw [e r, e' r]; grind⟩⟩
theorem Gs.mul {p : Nat} {F G : Nat → (Nat → Int) → Int} (h : Gs p F) (k : Gs p G) : Gs p (fun j r => F j r * G j r) :=
  ⟨fun j => (h.pol j).mul (k.pol j), fun j => by
    obtain ⟨d, hd, e⟩ := h.step j
    obtain ⟨d', hd', e'⟩ := k.step j
    exact ⟨_, (((h.pol j).fr (p := p)).mul hd').add ((hd.mul ((k.pol j).fr (p := p))).add ((Pol.const ((p : Int) ^ (j + 1))).mul (hd.mul hd'))), fun r => by
      show F (j+1) r * G (j+1) r = (fr p (F j) r * fr p (G j) r) + _
      rw [e r, e' r]; grind⟩⟩
theorem Gs.neg {p : Nat} {F : Nat → (Nat → Int) → Int} (h : Gs p F) : Gs p (fun j r => - F j r) := by
  have := (Gs.const p (-1)).mul h
  have e : (fun (j : Nat) r => - F j r) = fun j r => (-1) * F j r := by funext j r; omega
  rw [e]; exact this
theorem Gs.next {p : Nat} {F : Nat → (Nat → Int) → Int} (h : Gs p F) : Gs p (fun j r => F (j + 1) r) :=
  ⟨fun j => h.pol (j + 1), fun j => by
    obtain ⟨d, hd, e⟩ := h.step (j + 1)
    exact ⟨_, (Pol.const (p : Int)).mul hd, fun r => by rw [e r, Int.pow_succ]; grind⟩⟩

end Go.Proofs.YteijannfbafdpaaGreatDoor

/- Vectors from ghosts, as both programs reckon them. No program stands here. -/
set_option linter.unusedSimpArgs false
set_option linter.unusedVariables false
namespace Go.Proofs.YteijannfbafdpaaGreatDoor

def at0 (xs : List Int) (i : Nat) : Int := xs.getD i 0
theorem at0_get {xs : List Int} {i : Nat} (h : i < xs.length) : at0 xs i = xs[i] := by simp [at0, List.getD, h]
end Go.Proofs.YteijannfbafdpaaGreatDoor

/- Power series modulo a number, as lists: sums, products, compositions. No program stands here. -/
set_option linter.unusedSimpArgs false
set_option linter.unusedVariables false
namespace Go.Proofs.YteijannfbafdpaaGreatDoor

def mk (n : Nat) (f : Nat → Int) : List Int := (List.range n).map f
theorem mk_len (n : Nat) (f : Nat → Int) : (mk n f).length = n := by simp [mk]
theorem mk_get {n : Nat} {f : Nat → Int} {k : Nat} (h : k < n) : (mk n f)[k]? = some (f k) := by simp [mk, h]
theorem mk_at {n : Nat} {f : Nat → Int} {k : Nat} (h : k < n) : at0 (mk n f) k = f k := by simp [at0, List.getD, mk_get h]
theorem mk_out {n : Nat} {f : Nat → Int} {k : Nat} (h : n ≤ k) : at0 (mk n f) k = 0 := by simp [at0, List.getD, mk, h]
theorem mk_ext {n : Nat} {f g : Nat → Int} (h : ∀ k, k < n → f k = g k) : mk n f = mk n g := by
  unfold mk; exact List.map_congr_left (fun k hk => h k (List.mem_range.1 hk))
theorem mk_set {n : Nat} {f : Nat → Int} {k : Nat} {x : Int} : (mk n f).set k x = mk n (fun j => if j = k then x else f j) := by
  apply List.ext_getElem?
  intro j
  simp only [List.getElem?_set, mk, List.length_map, List.length_range, List.getElem?_map]
  by_cases h : k = j
  · subst h
    by_cases hk : k < n <;> simp [hk]
  · have h' : ¬ j = k := fun e => h e.symm
    by_cases hk : j < n <;> simp [h, h', hk]
theorem mk_snoc (n : Nat) (f : Nat → Int) : mk (n + 1) f = mk n f ++ [f n] := by simp [mk, List.range_succ]
theorem eq_mk (xs : List Int) : xs = mk xs.length (at0 xs) := by
  apply List.ext_getElem?
  intro j
  by_cases h : j < xs.length
  · rw [mk_get h, at0_get h]; simp [h]
  · rw [List.getElem?_eq_none (by omega), List.getElem?_eq_none (by rw [mk_len]; omega)]
theorem at0_out {xs : List Int} {k : Nat} (h : xs.length ≤ k) : at0 xs k = 0 := by simp [at0, List.getD, h]
theorem some_at0 {xs : List Int} {k : Nat} (h : k < xs.length) : xs[k]? = some (at0 xs k) := by rw [at0_get h]; simp [h]
theorem mk_zero (n : Nat) : List.replicate n (0 : Int) = mk n (fun _ => 0) := by
  apply List.ext_getElem?
  intro j
  by_cases h : j < n
  · rw [mk_get h]; simp [h]
  · rw [List.getElem?_eq_none (by simp; omega), List.getElem?_eq_none (by rw [mk_len]; omega)]
theorem mem_mk {n : Nat} {f : Nat → Int} {x : Int} (h : x ∈ mk n f) : ∃ k, k < n ∧ x = f k := by
  unfold mk at h
  obtain ⟨k, hk, rfl⟩ := List.mem_map.1 h
  exact ⟨k, List.mem_range.1 hk, rfl⟩

def conv (a b : Nat → Int) (k : Nat) : Int := sumN (k + 1) (fun i => a i * b (k - i))
def convP (a b : Nat → Int) (i j k : Nat) : Int := sumN (min i (k + 1)) (fun i' => a i' * b (k - i')) + if i ≤ k ∧ k < i + j then a i * b (k - i) else 0

theorem convP_0 (a b : Nat → Int) (k : Nat) : convP a b 0 0 k = 0 := by simp [convP, sumN]
theorem convP_step (a b : Nat → Int) (i j k : Nat) : convP a b i (j + 1) k = convP a b i j k + if k = i + j then a i * b j else 0 := by
  unfold convP
  by_cases h : k = i + j
  · subst h
    rw [if_pos ⟨by omega, by omega⟩, if_neg (by omega), if_pos rfl, show i + j - i = j by omega]; omega
  · rw [if_neg h]
    by_cases h1 : i ≤ k ∧ k < i + j
    · rw [if_pos h1, if_pos ⟨h1.1, by omega⟩]; omega
    · rw [if_neg h1, if_neg (by omega)]; omega
theorem convP_row (a b : Nat → Int) (i j k : Nat) (h : i + j ≤ k → a i * b (k - i) = 0) : convP a b i j k = convP a b (i + 1) 0 k := by
  unfold convP
  rw [if_neg (show ¬ (i + 1 ≤ k ∧ k < i + 1 + 0) by omega)]
  by_cases h1 : i ≤ k
  · rw [show min (i + 1) (k + 1) = i + 1 by omega, show min i (k + 1) = i by omega]
    simp only [sumN]
    by_cases h2 : k < i + j
    · rw [if_pos ⟨h1, h2⟩]; omega
    · rw [if_neg (by omega), h (by omega)]; omega
  · rw [if_neg (by omega), show min i (k + 1) = k + 1 by omega, show min (i + 1) (k + 1) = k + 1 by omega]
theorem sumN_zero {n : Nat} {f : Nat → Int} (h : ∀ i, i < n → f i = 0) : sumN n f = 0 := by
  induction n with
  | zero => rfl
  | succ n ih => simp only [sumN]; rw [ih (fun i hi => h i (by omega)), h n (by omega)]; rfl
theorem sumN_split (n k : Nat) (f : Nat → Int) : sumN (n + k) f = sumN n f + sumN k (fun i => f (n + i)) := by
  induction k with
  | zero => simp [sumN]
  | succ k ih => rw [show n + (k + 1) = n + k + 1 by omega]; simp only [sumN]; rw [ih]; omega
theorem convP_all (a b : Nat → Int) (i k : Nat) (h : ∀ i', i ≤ i' → i' ≤ k → a i' = 0) : convP a b i 0 k = conv a b k := by
  unfold convP conv
  rw [if_neg (by omega)]
  by_cases h1 : k + 1 ≤ i
  · rw [show min i (k + 1) = k + 1 by omega]; omega
  · rw [show min i (k + 1) = i by omega]
    obtain ⟨d, hd⟩ : ∃ d, k + 1 = i + d := ⟨k + 1 - i, by omega⟩
    rw [hd, sumN_split, sumN_zero (n := d) (f := fun j => a (i + j) * b (k - (i + j))) (fun j hj => by rw [h (i + j) (by omega) (by omega)]; simp)]

def tmS (m : Int) (n : Nat) (a b : List Int) (i j : Nat) : List Int := mk n (fun k => convP (at0 a) (at0 b) i j k % m)
def timesL (m : Int) (n : Nat) (a b : List Int) : List Int := mk n (fun k => conv (at0 a) (at0 b) k % m)
theorem tmS_len (m : Int) (n : Nat) (a b : List Int) (i j : Nat) : (tmS m n a b i j).length = n := mk_len _ _
theorem timesL_len (m : Int) (n : Nat) (a b : List Int) : (timesL m n a b).length = n := mk_len _ _
theorem tmS_0 (m : Int) (n : Nat) (a b : List Int) : List.replicate n (0 : Int) = tmS m n a b 0 0 := by
  rw [mk_zero]; exact mk_ext (fun k _ => by rw [convP_0]; simp)
theorem tmS_set {m : Int} {n : Nat} {a b : List Int} {i j : Nat} {x y : Int} (hx : at0 a i = x) (hy : at0 b j = y) :
    (tmS m n a b i j).set (i + j) ((convP (at0 a) (at0 b) i j (i + j) % m + x * y % m) % m) = tmS m n a b i (j + 1) := by
  subst hx hy
  unfold tmS
  rw [mk_set]
  refine mk_ext fun k hk => ?_
  rw [convP_step]
  by_cases h : k = i + j
  · subst h; simp only [if_true]; rw [← Int.add_emod]
  · rw [if_neg h, if_neg h, Int.add_zero]
theorem tmS_set2 {m : Int} {n : Nat} {a b : List Int} {i j : Nat} {x y : Int} (hx : at0 a i = x) (hy : at0 b j = y) :
    (tmS m n a b i j).set (i + j) ((convP (at0 a) (at0 b) i j (i + j) + x * y) % m) = tmS m n a b i (j + 1) := by
  rw [← tmS_set hx hy, ← Int.add_emod]
theorem tmS_row {m : Int} {n : Nat} {a b : List Int} {i j : Nat} (h : n ≤ i + j ∨ b.length ≤ j ∨ at0 a i = 0) : tmS m n a b i j = tmS m n a b (i + 1) 0 := by
  refine mk_ext fun k hk => ?_
  rw [convP_row _ _ _ _ _ (fun hij => ?_)]
  rcases h with h | h | h
  · omega
  · rw [at0_out (xs := b) (by omega), Int.mul_zero]
  · rw [h, Int.zero_mul]
theorem tmS_all {m : Int} {n : Nat} {a b : List Int} {i : Nat} (h : n ≤ i ∨ a.length ≤ i) : tmS m n a b i 0 = timesL m n a b := by
  refine mk_ext fun k hk => ?_
  rw [convP_all _ _ _ _ (fun i' h1 h2 => ?_)]
  rcases h with h | h
  · omega
  · exact at0_out (by omega)
theorem timesL_range {m : Int} (hm : 0 < m) {n : Nat} {a b : List Int} : ∀ x ∈ timesL m n a b, 0 ≤ x ∧ x < m := by
  intro x hx
  obtain ⟨k, _, rfl⟩ := mem_mk hx
  exact mod_lt' hm
theorem mem_at0 {xs : List Int} {k : Nat} (h : k < xs.length) : at0 xs k ∈ xs := by rw [at0_get h]; exact List.getElem_mem h
theorem at0_range {xs : List Int} {m : Int} (hm : 0 < m) (h : ∀ x ∈ xs, 0 ≤ x ∧ x < m) (k : Nat) : 0 ≤ at0 xs k ∧ at0 xs k < m := by
  by_cases hk : k < xs.length
  · exact h _ (mem_at0 hk)
  · rw [at0_out (by omega)]; omega

def addL (m : Int) (n : Nat) (a b : List Int) : List Int := mk n (fun k => (at0 a k + at0 b k) % m)
theorem addL_len (m : Int) (n : Nat) (a b : List Int) : (addL m n a b).length = n := mk_len _ _
def addTo (m : Int) (n : Nat) (a b : List Int) (i : Nat) : List Int := mk n (fun k => if k < i then (at0 a k + at0 b k) % m else 0)
theorem addTo_len (m : Int) (n : Nat) (a b : List Int) (i : Nat) : (addTo m n a b i).length = n := mk_len _ _
theorem addTo_0 (m : Int) (n : Nat) (a b : List Int) : List.replicate n (0 : Int) = addTo m n a b 0 := by
  rw [mk_zero]; exact mk_ext (fun k _ => by simp)
theorem addTo_set {m : Int} {n : Nat} {a b : List Int} {i : Nat} {x y : Int} (hx : at0 a i = x) (hy : at0 b i = y) : (addTo m n a b i).set i ((x + y) % m) = addTo m n a b (i + 1) := by
  subst hx hy
  unfold addTo
  rw [mk_set]
  refine mk_ext fun k hk => ?_
  by_cases h : k = i
  · subst h; simp
  · rw [if_neg h]
    by_cases h1 : k < i
    · rw [if_pos h1, if_pos (by omega)]
    · rw [if_neg h1, if_neg (by omega)]
theorem addTo_all {m : Int} {n : Nat} {a b : List Int} {i : Nat} (h : n ≤ i) : addTo m n a b i = addL m n a b := mk_ext fun k hk => by rw [if_pos (by omega)]
def scaleL (m c : Int) (a : List Int) : List Int := a.map (fun x => c * x % m)
theorem scaleL_len (m c : Int) (a : List Int) : (scaleL m c a).length = a.length := by simp [scaleL]

def addc (m c : Int) (l : List Int) : List Int := l.set 0 ((at0 l 0 + c) % m)
theorem addc_len (m c : Int) (l : List Int) : (addc m c l).length = l.length := by simp [addc]
def horn (m : Int) (n : Nat) (f : List Int) : List Int → List Int
  | [] => List.replicate n 0
  | c :: cs => addc m c (timesL m n (horn m n f cs) f)
theorem horn_len (m : Int) (n : Nat) (f cs : List Int) : (horn m n f cs).length = n := by
  cases cs with
  | nil => simp [horn]
  | cons c cs => simp [horn, addc_len, timesL_len]
theorem horn_range {m : Int} (hm : 0 < m) {n : Nat} {f cs : List Int} : ∀ x ∈ horn m n f cs, 0 ≤ x ∧ x < m := by
  cases cs with
  | nil => intro x hx; simp [horn] at hx; omega
  | cons c cs =>
    intro x hx
    simp only [horn, addc] at hx
    rcases List.mem_or_eq_of_mem_set hx with h | rfl
    · exact timesL_range hm x h
    · exact mod_lt' hm
theorem horn_drop {m : Int} {n : Nat} {f a : List Int} {i : Nat} {x : Int} (h : a[i]? = some x) : horn m n f (a.drop i) = addc m x (timesL m n (horn m n f (a.drop (i + 1))) f) := by
  obtain ⟨hl, rfl⟩ := List.getElem?_eq_some_iff.1 h
  rw [List.drop_eq_getElem_cons hl]; rfl
end Go.Proofs.YteijannfbafdpaaGreatDoor

/- Planes modulo a number, as tables. No program stands here. -/
set_option linter.unusedSimpArgs false
set_option linter.unusedVariables false
namespace Go.Proofs.YteijannfbafdpaaGreatDoor

def tri (n : Nat) (f : Nat → Nat → Int) : List (List Int) := (List.range n).map (fun i => mk (n - i) (f i))
theorem tri_len (n : Nat) (f : Nat → Nat → Int) : (tri n f).length = n := by simp [tri]
theorem tri_get {n : Nat} {f : Nat → Nat → Int} {i : Nat} (h : i < n) : (tri n f)[i]? = some (mk (n - i) (f i)) := by simp [tri, h]
theorem tri_ext {n : Nat} {f g : Nat → Nat → Int} (h : ∀ i j, i + j < n → f i j = g i j) : tri n f = tri n g := by
  unfold tri
  refine List.map_congr_left fun i hi => mk_ext fun j hj => h i j (by have := List.mem_range.1 hi; omega)
theorem tri_set {n : Nat} {f : Nat → Nat → Int} {i j : Nat} {x : Int} (h : i + j < n) : (tri n f).set i ((mk (n - i) (f i)).set j x) = tri n (fun a b => if a = i ∧ b = j then x else f a b) := by
  apply List.ext_getElem?
  intro a
  rw [List.getElem?_set]
  by_cases e : i = a
  · subst e
    rw [if_pos rfl, tri_len, if_pos (by omega), tri_get (by omega), mk_set]
    congr 1
    exact mk_ext fun b hb => by by_cases e : b = j <;> simp [e]
  · rw [if_neg e]
    by_cases ha : a < n
    · rw [tri_get ha, tri_get ha]
      congr 1
      exact mk_ext fun b hb => by rw [if_neg (fun h => e h.1.symm)]
    · rw [List.getElem?_eq_none (by rw [tri_len]; omega), List.getElem?_eq_none (by rw [tri_len]; omega)]
def atT (t : List (List Int)) (i j : Nat) : Int := at0 (t.getD i []) j
theorem atT_tri {n : Nat} {f : Nat → Nat → Int} {i j : Nat} (h : i + j < n) : atT (tri n f) i j = f i j := by
  unfold atT List.getD
  rw [tri_get (by omega)]
  exact mk_at (by omega)
theorem atT_row {t : List (List Int)} {i j : Nat} (h : i < t.length) : atT t i j = at0 t[i] j := by simp [atT, List.getD, h]
theorem tri_eq {t : List (List Int)} {n : Nat} (hl : t.length = n) (hr : ∀ i (hi : i < t.length), t[i].length = n - i) : t = tri n (atT t) := by
  subst hl
  apply List.ext_getElem?
  intro i
  by_cases hi : i < t.length
  · rw [tri_get hi]
    rw [List.getElem?_eq_getElem hi]
    congr 1
    rw [← hr i hi]
    conv => lhs; rw [eq_mk t[i]]
    exact mk_ext fun j _ => (atT_row hi).symm
  · rw [List.getElem?_eq_none (by omega), List.getElem?_eq_none (by rw [tri_len]; omega)]
theorem tri_snoc_rows (n k : Nat) (f : Nat → Nat → Int) : (List.range (k + 1)).map (fun i => mk (n - i) (f i)) = (List.range k).map (fun i => mk (n - i) (f i)) ++ [mk (n - k) (f k)] := by
  rw [List.range_succ, List.map_append]; rfl
def zeroRows (n k : Nat) : List (List Int) := (List.range k).map (fun i => List.replicate (n - i) 0)
theorem zeroRows_len (n k : Nat) : (zeroRows n k).length = k := by simp [zeroRows]
theorem zeroRows_snoc (n k : Nat) : zeroRows n (k + 1) = zeroRows n k ++ [List.replicate (n - k) 0] := by simp [zeroRows, List.range_succ]
def zeroT (n : Nat) : List (List Int) := tri n (fun _ _ => 0)
theorem zeroRows_all (n : Nat) : zeroRows n n = zeroT n := by
  unfold zeroRows zeroT tri
  exact List.map_congr_left fun i _ => mk_zero _
theorem zeroT_len (n : Nat) : (zeroT n).length = n := tri_len _ _
def addT (m : Int) (n : Nat) (a b : List (List Int)) : List (List Int) := tri n (fun i j => (atT a i j + atT b i j) % m)
end Go.Proofs.YteijannfbafdpaaGreatDoor

/- Products of planes modulo a number, as tables. No program stands here. -/
set_option linter.unusedSimpArgs false
set_option linter.unusedVariables false
namespace Go.Proofs.YteijannfbafdpaaGreatDoor

theorem sumN_ext {n : Nat} {f g : Nat → Int} (h : ∀ i, i < n → f i = g i) : sumN n f = sumN n g := sumN_congr h
theorem sumN_cut {n k : Nat} {f : Nat → Int} (hk : k ≤ n) (h : ∀ i, k ≤ i → i < n → f i = 0) : sumN n f = sumN k f := by
  obtain ⟨d, rfl⟩ : ∃ d, n = k + d := ⟨n - k, by omega⟩
  rw [sumN_split, sumN_zero (n := d) (f := fun i => f (k + i)) (fun i hi => h (k + i) (by omega) (by omega))]; omega

def conv2 (a b : Nat → Nat → Int) (p q : Nat) : Int := sumN (p + 1) (fun i => sumN (q + 1) (fun j => a i j * b (p - i) (q - j)))
def c2F (a b : Nat → Nat → Int) (p q i j : Nat) : Int := if i ≤ p ∧ j ≤ q then a i j * b (p - i) (q - j) else 0
def c2P (n : Nat) (a b : Nat → Nat → Int) (i j k l p q : Nat) : Int :=
  sumN i (fun i' => sumN n (c2F a b p q i')) + sumN j (c2F a b p q i) + if (i ≤ p ∧ j ≤ q) ∧ (p - i < k ∨ (p - i = k ∧ q - j < l)) then a i j * b (p - i) (q - j) else 0

theorem c2P_0 (n : Nat) (a b : Nat → Nat → Int) (p q : Nat) : c2P n a b 0 0 0 0 p q = 0 := by
  unfold c2P; simp [sumN]
theorem c2P_step (n : Nat) (a b : Nat → Nat → Int) (i j k l p q : Nat) : c2P n a b i j k (l + 1) p q = c2P n a b i j k l p q + if p = i + k ∧ q = j + l then a i j * b k l else 0 := by
  unfold c2P
  by_cases h : p = i + k ∧ q = j + l
  · obtain ⟨rfl, rfl⟩ := h
    rw [if_pos (by omega), if_neg (by omega), if_pos ⟨rfl, rfl⟩, show i + k - i = k by omega, show j + l - j = l by omega]; omega
  · rw [if_neg h]
    by_cases h1 : (i ≤ p ∧ j ≤ q) ∧ (p - i < k ∨ (p - i = k ∧ q - j < l))
    · rw [if_pos h1, if_pos (by omega)]; omega
    · rw [if_neg h1, if_neg (by omega)]; omega
theorem c2P_row {n : Nat} (a b : Nat → Nat → Int) {i j k l p q : Nat} (hn : n ≤ i + j + k + l) (h : p + q < n) : c2P n a b i j k l p q = c2P n a b i j (k + 1) 0 p q := by
  unfold c2P
  congr 1
  by_cases h1 : (i ≤ p ∧ j ≤ q) ∧ (p - i < k ∨ (p - i = k ∧ q - j < l))
  · rw [if_pos h1, if_pos (by omega)]
  · rw [if_neg h1, if_neg (by omega)]
theorem c2P_place {n : Nat} (a b : Nat → Nat → Int) {i j k p q : Nat} (hn : n ≤ i + j + k ∨ a i j = 0) (h : p + q < n) : c2P n a b i j k 0 p q = c2P n a b i (j + 1) 0 0 p q := by
  unfold c2P
  rw [if_neg (show ¬ ((i ≤ p ∧ j + 1 ≤ q) ∧ (p - i < 0 ∨ (p - i = 0 ∧ q - (j + 1) < 0))) by omega)]
  simp only [sumN]
  have : (if (i ≤ p ∧ j ≤ q) ∧ (p - i < k ∨ (p - i = k ∧ q - j < 0)) then a i j * b (p - i) (q - j) else 0) = c2F a b p q i j := by
    unfold c2F
    by_cases h0 : a i j = 0
    · rw [h0]; simp
    · have hn' : n ≤ i + j + k := by rcases hn with h | h; exact h; exact absurd h h0
      by_cases h1 : i ≤ p ∧ j ≤ q
      · rw [if_pos (by omega), if_pos h1]
      · rw [if_neg (by omega), if_neg h1]
  rw [this]; omega
theorem c2P_line {n : Nat} (a b : Nat → Nat → Int) {i p q : Nat} (h : p + q < n) {j : Nat} (hj : j = n - i) : c2P n a b i j 0 0 p q = c2P n a b (i + 1) 0 0 0 p q := by
  subst hj
  unfold c2P
  rw [if_neg (by omega), if_neg (by omega)]
  simp only [sumN]
  rw [sumN_cut (n := n) (k := n - i) (f := c2F a b p q i) (by omega) (fun j h1 h2 => by unfold c2F; rw [if_neg (by omega)])]
  omega
theorem c2P_all {n : Nat} (a b : Nat → Nat → Int) {p q : Nat} (h : p + q < n) : c2P n a b n 0 0 0 p q = conv2 a b p q := by
  unfold c2P conv2
  rw [if_neg (by omega), show sumN 0 (c2F a b p q n) = 0 from rfl]
  rw [sumN_cut (n := n) (k := p + 1) (by omega) (fun i h1 h2 => sumN_zero (fun j hj => by unfold c2F; rw [if_neg (by omega)]))]
  rw [sumN_ext (n := p + 1) (g := fun i => sumN (q + 1) (fun j => a i j * b (p - i) (q - j))) (fun i hi => by
    rw [sumN_cut (n := n) (k := q + 1) (by omega) (fun j h1 h2 => by unfold c2F; rw [if_neg (by omega)])]
    exact sumN_ext (fun j hj => by unfold c2F; rw [if_pos (by omega)]))]
  omega

def tmT (m : Int) (n : Nat) (a b : List (List Int)) (i j k l : Nat) : List (List Int) := tri n (fun p q => c2P n (atT a) (atT b) i j k l p q % m)
def timesT (m : Int) (n : Nat) (a b : List (List Int)) : List (List Int) := tri n (fun p q => conv2 (atT a) (atT b) p q % m)
theorem timesT_len (m : Int) (n : Nat) (a b : List (List Int)) : (timesT m n a b).length = n := tri_len _ _
theorem tmT_0 (m : Int) (n : Nat) (a b : List (List Int)) : zeroT n = tmT m n a b 0 0 0 0 := tri_ext fun p q _ => by rw [c2P_0]; simp
def tmTr (m : Int) (n : Nat) (a b : List (List Int)) (i j k l r : Nat) : List Int := mk (n - r) (fun q => c2P n (atT a) (atT b) i j k l r q % m)
theorem tmTr_len (m : Int) (n : Nat) (a b : List (List Int)) (i j k l r : Nat) : (tmTr m n a b i j k l r).length = n - r := mk_len _ _
theorem tmT_row' {m : Int} {n : Nat} {a b : List (List Int)} {i j k l r : Nat} (h : r < n) : (tmT m n a b i j k l)[r]? = some (tmTr m n a b i j k l r) := tri_get h
theorem tmTr_get {m : Int} {n : Nat} {a b : List (List Int)} {i j k l r q : Nat} (h : r + q < n) : (tmTr m n a b i j k l r)[q]? = some (c2P n (atT a) (atT b) i j k l r q % m) := mk_get (by omega)
theorem tmT_set {m : Int} {n : Nat} {a b : List (List Int)} {i j k l : Nat} (h : i + j + k + l < n) :
    (tmT m n a b i j k l).set (i + k) ((tmTr m n a b i j k l (i + k)).set (j + l) ((c2P n (atT a) (atT b) i j k l (i + k) (j + l) + atT a i j * atT b k l) % m)) = tmT m n a b i j k (l + 1) := by
  unfold tmT tmTr
  rw [tri_set (f := fun p q => c2P n (atT a) (atT b) i j k l p q % m) (by omega)]
  refine tri_ext fun p q _ => ?_
  rw [c2P_step]
  by_cases h1 : p = i + k ∧ q = j + l
  · rw [if_pos h1, if_pos h1]
    obtain ⟨rfl, rfl⟩ := h1; rfl
  · rw [if_neg h1, if_neg h1, Int.add_zero]
theorem tmT_row {m : Int} {n : Nat} {a b : List (List Int)} {i j k l : Nat} (hn : n ≤ i + j + k + l) : tmT m n a b i j k l = tmT m n a b i j (k + 1) 0 := tri_ext fun p q h => by rw [c2P_row _ _ hn h]
theorem tmT_place {m : Int} {n : Nat} {a b : List (List Int)} {i j k : Nat} (hn : n ≤ i + j + k ∨ atT a i j = 0) : tmT m n a b i j k 0 = tmT m n a b i (j + 1) 0 0 := tri_ext fun p q h => by rw [c2P_place _ _ hn h]
theorem tmT_line {m : Int} {n : Nat} {a b : List (List Int)} {i j : Nat} (hj : j = n - i) : tmT m n a b i j 0 0 = tmT m n a b (i + 1) 0 0 0 := tri_ext fun p q h => by rw [c2P_line _ _ h hj]
theorem tmT_all {m : Int} {n : Nat} {a b : List (List Int)} : tmT m n a b n 0 0 0 = timesT m n a b := tri_ext fun p q h => by rw [c2P_all _ _ h]
def PlaT (m : Int) (n : Nat) (t : List (List Int)) : Prop := t.length = n ∧ ∀ i (hi : i < t.length), t[i].length = t.length - i ∧ ∀ x ∈ t[i], 0 ≤ x ∧ x < m
theorem tri_ok {m : Int} {n : Nat} {f : Nat → Nat → Int} (h : ∀ i j, i + j < n → 0 ≤ f i j ∧ f i j < m) : PlaT m n (tri n f) := by
  refine ⟨tri_len _ _, fun i hi => ?_⟩
  rw [tri_len] at hi
  have e : (tri n f)[i]'(by rw [tri_len]; exact hi) = mk (n - i) (f i) := by
    have := tri_get (f := f) hi
    rw [List.getElem?_eq_getElem (by rw [tri_len]; exact hi)] at this
    exact Option.some.inj this
  rw [e, mk_len, tri_len]
  refine ⟨rfl, fun x hx => ?_⟩
  obtain ⟨k, hk, rfl⟩ := mem_mk hx
  exact h i k (by omega)
theorem zeroT_ok {m : Int} (hm : 0 < m) (n : Nat) : PlaT m n (zeroT n) := tri_ok fun i j _ => by omega
theorem timesT_ok {m : Int} (hm : 0 < m) (n : Nat) (a b : List (List Int)) : PlaT m n (timesT m n a b) := tri_ok fun _ _ _ => mod_lt' hm
theorem addT_ok {m : Int} (hm : 0 < m) (n : Nat) (a b : List (List Int)) : PlaT m n (addT m n a b) := tri_ok fun _ _ _ => mod_lt' hm
end Go.Proofs.YteijannfbafdpaaGreatDoor

/- Powers of series and planes; curves put into planes; a series of a plane, told by the plane's powers. No program stands here. -/
set_option linter.unusedSimpArgs false
set_option linter.unusedVariables false
namespace Go.Proofs.YteijannfbafdpaaGreatDoor

theorem emod_congr_add {a a' b b' m : Int} (h : a % m = a' % m) (k : b % m = b' % m) : (a + b) % m = (a' + b') % m := by rw [Int.add_emod, h, k, ← Int.add_emod]
theorem emod_congr_mul {a a' b b' m : Int} (h : a % m = a' % m) (k : b % m = b' % m) : (a * b) % m = (a' * b') % m := by rw [Int.mul_emod, h, k, ← Int.mul_emod]
theorem emod_congr_sub {a a' b b' m : Int} (h : a % m = a' % m) (k : b % m = b' % m) : (a - b) % m = (a' - b') % m := by rw [Int.sub_emod, h, k, ← Int.sub_emod]
theorem emod_idem (a m : Int) : a % m % m = a % m := Int.emod_emod_of_dvd _ (Int.dvd_refl m)
theorem one_mod {m : Int} (hm : 2 ≤ m) : (1 : Int) % m = 1 := Int.emod_eq_of_lt (by omega) (by omega)

def powL (m : Int) (n : Nat) (a : List Int) : Nat → List Int
  | 0 => (List.replicate n 0).set 0 (1 % m)
  | k + 1 => timesL m n (powL m n a k) a
theorem powL_len (m : Int) (n : Nat) (a : List Int) (k : Nat) : (powL m n a k).length = n := by
  cases k
  · simp [powL]
  · exact timesL_len _ _ _ _
theorem powL_range {m : Int} (hm : 0 < m) {n : Nat} {a : List Int} {k : Nat} : ∀ x ∈ powL m n a k, 0 ≤ x ∧ x < m := by
  cases k
  · intro x hx
    rcases List.mem_or_eq_of_mem_set hx with h | rfl
    · simp at h; omega
    · exact mod_lt' hm
  · exact timesL_range hm
def powsL (m : Int) (n : Nat) (a : List Int) (k : Nat) : List (List Int) := (List.range k).map (powL m n a)
theorem powsL_len (m : Int) (n : Nat) (a : List Int) (k : Nat) : (powsL m n a k).length = k := by simp [powsL]
theorem powsL_get {m : Int} {n : Nat} {a : List Int} {k i : Nat} (h : i < k) : (powsL m n a k)[i]? = some (powL m n a i) := by simp [powsL, h]
theorem powsL_snoc (m : Int) (n : Nat) (a : List Int) (k : Nat) : powsL m n a (k + 1) = powsL m n a k ++ [powL m n a k] := by simp [powsL, List.range_succ]
theorem conv_low {a b : Nat → Int} {e k : Nat} (ha : ∀ i, i < e → a i = 0) (hb : b 0 = 0) (h : k < e + 1) : conv a b k = 0 := by
  unfold conv
  refine sumN_zero fun i hi => ?_
  by_cases h1 : i < e
  · rw [ha i h1, Int.zero_mul]
  · rw [show k - i = 0 by omega, hb, Int.mul_zero]
theorem powL_low {m : Int} {n : Nat} {a : List Int} (ha : at0 a 0 = 0) (k : Nat) : ∀ i, i < k → at0 (powL m n a k) i = 0 := by
  induction k with
  | zero => intro i hi; omega
  | succ k ih =>
    intro i hi
    by_cases hn : i < n
    · unfold powL timesL
      rw [mk_at hn, conv_low ih ha hi]; simp
    · exact at0_out (by rw [powL_len]; omega)

theorem scaleL_at {m c : Int} {a : List Int} {k : Nat} (h : k < a.length) : at0 (scaleL m c a) k = c * at0 a k % m := by
  unfold scaleL at0 List.getD
  rw [List.getElem?_map, List.getElem?_eq_getElem h]; rfl
theorem scaleL_range {m : Int} (hm : 0 < m) {c : Int} {a : List Int} : ∀ x ∈ scaleL m c a, 0 ≤ x ∧ x < m := by
  intro x hx
  unfold scaleL at hx
  obtain ⟨y, _, rfl⟩ := List.mem_map.1 hx
  exact mod_lt' hm
def botS (n : Nat) (t : Nat → Nat → Int) (P Q : Nat → List Int) (i j p q : Nat) : Int :=
  sumN i (fun i' => sumN (n - i') (fun j' => t i' j' * (at0 (P i') p * at0 (Q j') q))) + sumN j (fun j' => t i j' * (at0 (P i) p * at0 (Q j') q))
def botTo (m : Int) (n : Nat) (t : Nat → Nat → Int) (P Q : Nat → List Int) (i j : Nat) : List (List Int) := tri n (fun p q => botS n t P Q i j p q % m)
theorem botTo_ok {m : Int} (hm : 0 < m) (n : Nat) (t : Nat → Nat → Int) (P Q : Nat → List Int) (i j : Nat) : PlaT m n (botTo m n t P Q i j) := tri_ok fun _ _ _ => mod_lt' hm
theorem botTo_0 (m : Int) (n : Nat) (t : Nat → Nat → Int) (P Q : Nat → List Int) : zeroT n = botTo m n t P Q 0 0 := tri_ext fun p q _ => by simp [botS, sumN]
theorem botS_step (n : Nat) (t : Nat → Nat → Int) (P Q : Nat → List Int) (i j p q : Nat) : botS n t P Q i (j + 1) p q = botS n t P Q i j p q + t i j * (at0 (P i) p * at0 (Q j) q) := by
  unfold botS
  simp only [sumN]; omega
theorem botTo_skip {m : Int} {n : Nat} {t : Nat → Nat → Int} {P Q : Nat → List Int} {i j : Nat} (h : t i j = 0) : botTo m n t P Q i j = botTo m n t P Q i (j + 1) :=
  tri_ext fun p q _ => by rw [botS_step, h, Int.zero_mul, Int.add_zero]
theorem botTo_row {m : Int} {n : Nat} {t : Nat → Nat → Int} {P Q : Nat → List Int} {i j : Nat} (h : j = n - i) : botTo m n t P Q i j = botTo m n t P Q (i + 1) 0 := by
  subst h
  exact tri_ext fun p q _ => by unfold botS; simp only [sumN, Int.add_zero]
def botL (m : Int) (n : Nat) (t : List (List Int)) (a b : List Int) : List (List Int) := botTo m n (atT t) (powL m n a) (powL m n b) n 0
def outT (m : Int) (n : Nat) (f : List (List Int)) (a b : List Int) : List (List Int) := tri n (fun p q => (atT f p q + at0 a p * at0 b q) % m)
theorem botTo_step {m : Int} {n : Nat} {t : Nat → Nat → Int} {P Q : Nat → List Int} {i j : Nat} (hP : (P i).length = n) :
    outT m n (botTo m n t P Q i j) (scaleL m (t i j) (P i)) (Q j) = botTo m n t P Q i (j + 1) := by
  unfold outT
  refine tri_ext fun p q h => ?_
  unfold botTo
  rw [atT_tri h, scaleL_at (by omega), botS_step]
  refine emod_congr_add (emod_idem _ _) ?_
  rw [← Int.mul_assoc]
  exact emod_congr_mul (emod_idem _ _) rfl

def powT (m : Int) (n : Nat) (t : List (List Int)) : Nat → List (List Int)
  | 0 => tri n (fun i j => if i = 0 ∧ j = 0 then 1 % m else 0)
  | k + 1 => timesT m n (powT m n t k) t
theorem powT_len (m : Int) (n : Nat) (t : List (List Int)) (k : Nat) : (powT m n t k).length = n := by
  cases k <;> exact tri_len _ _
theorem powT_ok {m : Int} (hm : 0 < m) (n : Nat) (t : List (List Int)) (k : Nat) : PlaT m n (powT m n t k) := by
  cases k
  · exact tri_ok fun i j _ => by
      split
      · exact mod_lt' hm
      · omega
  · exact timesT_ok hm _ _ _
def powsT (m : Int) (n : Nat) (t : List (List Int)) (k : Nat) : List (List (List Int)) := (List.range k).map (powT m n t)
theorem powsT_len (m : Int) (n : Nat) (t : List (List Int)) (k : Nat) : (powsT m n t k).length = k := by simp [powsT]
theorem powsT_get {m : Int} {n : Nat} {t : List (List Int)} {k i : Nat} (h : i < k) : (powsT m n t k)[i]? = some (powT m n t i) := by simp [powsT, h]
theorem powsT_snoc (m : Int) (n : Nat) (t : List (List Int)) (k : Nat) : powsT m n t (k + 1) = powsT m n t k ++ [powT m n t k] := by simp [powsT, List.range_succ]
theorem conv2_mod {a a' b b' : Nat → Nat → Int} {m : Int} {p q : Nat} (ha : ∀ i j, i ≤ p → j ≤ q → a i j % m = a' i j % m) (hb : ∀ i j, i ≤ p → j ≤ q → b i j % m = b' i j % m) : conv2 a b p q % m = conv2 a' b' p q % m :=
  sumN_mod fun i hi => sumN_mod fun j hj => emod_congr_mul (ha i j (by omega) (by omega)) (hb _ _ (by omega) (by omega))
theorem conv2_add (a a' b : Nat → Nat → Int) (p q : Nat) : conv2 (fun i j => a i j + a' i j) b p q = conv2 a b p q + conv2 a' b p q := by
  unfold conv2
  rw [← sumN_add]
  refine sumN_ext fun i _ => ?_
  rw [← sumN_add]
  exact sumN_ext fun j _ => Int.add_mul _ _ _
theorem conv2_zero (b : Nat → Nat → Int) (p q : Nat) : conv2 (fun _ _ => 0) b p q = 0 := sumN_zero fun i _ => sumN_zero fun j _ => Int.zero_mul _
theorem conv2_scale (c : Int) (a b : Nat → Nat → Int) (p q : Nat) : conv2 (fun i j => c * a i j) b p q = c * conv2 a b p q := by
  unfold conv2
  rw [← sumN_mulc]
  refine sumN_ext fun i _ => ?_
  rw [← sumN_mulc]
  exact sumN_ext fun j _ => Int.mul_assoc _ _ _
theorem conv2_sum (k : Nat) (c : Nat → Int) (A : Nat → Nat → Nat → Int) (b : Nat → Nat → Int) (p q : Nat) : conv2 (fun i j => sumN k (fun e => c e * A e i j)) b p q = sumN k (fun e => c e * conv2 (A e) b p q) := by
  induction k with
  | zero => simp only [sumN]; exact conv2_zero b p q
  | succ k ih =>
    simp only [sumN]
    rw [conv2_add, ih, conv2_scale]
theorem sumN_shift (n : Nat) (f : Nat → Int) : sumN (n + 1) f = f 0 + sumN n (fun j => f (j + 1)) := by
  induction n with
  | zero => simp [sumN]
  | succ n ih => rw [sumN, ih]; simp only [sumN]; omega
def addcT (m c : Int) (n : Nat) (t : List (List Int)) : List (List Int) := tri n (fun i j => if i = 0 ∧ j = 0 then (atT t 0 0 + c) % m else atT t i j)
def hornT (m : Int) (n : Nat) (t : List (List Int)) : List Int → List (List Int)
  | [] => zeroT n
  | c :: cs => addcT m c n (timesT m n (hornT m n t cs) t)
theorem hornT_len (m : Int) (n : Nat) (t : List (List Int)) (cs : List Int) : (hornT m n t cs).length = n := by
  cases cs <;> exact tri_len _ _
theorem hornT_ok {m : Int} (hm : 0 < m) (n : Nat) (t : List (List Int)) (cs : List Int) : PlaT m n (hornT m n t cs) := by
  cases cs with
  | nil => exact zeroT_ok hm n
  | cons c cs =>
    refine tri_ok fun i j h => ?_
    split
    · exact mod_lt' hm
    · unfold timesT; rw [atT_tri h]; exact mod_lt' hm
theorem hornT_drop {m : Int} {n : Nat} {t : List (List Int)} {a : List Int} {i : Nat} {x : Int} (h : a[i]? = some x) : hornT m n t (a.drop i) = addcT m x n (timesT m n (hornT m n t (a.drop (i + 1))) t) := by
  obtain ⟨hl, rfl⟩ := List.getElem?_eq_some_iff.1 h
  rw [List.drop_eq_getElem_cons hl]; rfl
theorem hornT_pow {m : Int} {n : Nat} {t : List (List Int)} (cs : List Int) : ∀ {i j : Nat}, i + j < n → atT (hornT m n t cs) i j = sumN cs.length (fun k => at0 cs k * atT (powT m n t k) i j) % m := by
  induction cs with
  | nil => intro i j h; unfold hornT zeroT; rw [atT_tri h]; simp [sumN]
  | cons c cs ih =>
    intro i j h
    rw [List.length_cons, sumN_shift]
    have e1 : ∀ k, at0 (c :: cs) (k + 1) = at0 cs k := fun k => rfl
    have e0 : at0 (c :: cs) 0 = c := rfl
    simp only [e1, e0]
    have hT : atT (timesT m n (hornT m n t cs) t) i j % m = sumN cs.length (fun k => at0 cs k * atT (powT m n t (k + 1)) i j) % m := by
      unfold timesT
      rw [atT_tri h, emod_idem]
      rw [conv2_mod (m := m) (a' := fun i j => sumN cs.length (fun k => at0 cs k * atT (powT m n t k) i j)) (b' := atT t) (fun i' j' h1 h2 => by rw [ih (by omega), emod_idem]) (fun _ _ _ _ => rfl)]
      rw [conv2_sum]
      refine sumN_mod fun k _ => emod_congr_mul rfl ?_
      show _ = atT (timesT m n (powT m n t k) t) i j % m
      unfold timesT
      rw [atT_tri h, emod_idem]
    have h0 : atT (powT m n t 0) i j = if i = 0 ∧ j = 0 then 1 % m else 0 := by unfold powT; rw [atT_tri h]
    rw [h0]
    unfold hornT addcT
    rw [atT_tri h]
    by_cases e : i = 0 ∧ j = 0
    · rw [if_pos e, if_pos e]
      obtain ⟨rfl, rfl⟩ := e
      rw [Int.add_comm]
      refine emod_congr_add ?_ hT
      conv => lhs; rw [← Int.mul_one c]
      exact emod_congr_mul rfl (emod_idem _ _).symm
    · rw [if_neg e, if_neg e, Int.mul_zero, Int.zero_add, ← hT]
      unfold timesT
      rw [atT_tri h, emod_idem]
end Go.Proofs.YteijannfbafdpaaGreatDoor

/- Faults of a law, told by its table. No program stands here. -/
set_option linter.unusedSimpArgs false
set_option linter.unusedVariables false
namespace Go.Proofs.YteijannfbafdpaaGreatDoor

theorem flat_before {α : Type} (f : Nat → List α) (n : Nat) (h : ∀ k, k < n → f k = []) : (List.range n).flatMap f = [] := by
  rw [List.flatMap_eq_nil_iff]
  exact fun x hx => h x (List.mem_range.1 hx)
theorem flat_first {α : Type} (f : Nat → List α) {n i : Nat} (hi : i < n) (h : ∀ k, k < i → f k = []) {x : α} {l : List α} (hx : f i = x :: l) : ∃ l', (List.range n).flatMap f = x :: l' := by
  obtain ⟨d, rfl⟩ : ∃ d, n = i + 1 + d := ⟨n - (i + 1), by omega⟩
  rw [List.range_add, List.flatMap_append, List.range_succ, List.flatMap_append, flat_before f i h]
  refine ⟨l ++ ((List.range d).map (fun x => i + 1 + x)).flatMap f, ?_⟩
  simp [hx]

def lefC (m : Int) (n : Nat) (t : List (List Int)) (a b c : Nat) : Int := sumN (n - c) (fun i => atT t i c * atT (powT m n t i) a b) % m
def rigC (m : Int) (n : Nat) (t : List (List Int)) (a b c : Nat) : Int := sumN (n - a) (fun j => atT t a j * atT (powT m n t j) b c) % m
def dueI (i : Nat) : Int := if i = 1 then 1 else 0
def fau1 (t : List (List Int)) (n : Nat) : List (List Int) := (List.range n).flatMap (fun (i : Nat) => if atT t i 0 = dueI i then [] else [[0, (i : Int)]])
def fau2 (t : List (List Int)) (n : Nat) : List (List Int) := (List.range n).flatMap (fun (i : Nat) => (List.range n).flatMap (fun (j : Nat) => if i < j ∧ i + j < n ∧ atT t i j ≠ atT t j i then [[1, (i : Int), (j : Int)]] else []))
def fau3 (m : Int) (t : List (List Int)) (n : Nat) : List (List Int) := (List.range n).flatMap (fun (a : Nat) => (List.range n).flatMap (fun (b : Nat) => (List.range n).flatMap (fun (c : Nat) => if a + b + c < n ∧ lefC m n t a b c ≠ rigC m n t a b c then [[2, (a : Int), (b : Int), (c : Int)]] else [])))
def fauL (m : Int) (t : List (List Int)) (n : Nat) : List Int := (fau1 t n ++ (fau2 t n ++ fau3 m t n)).headD []

theorem fau1_nil {t : List (List Int)} {n : Nat} (h : ∀ i, i < n → atT t i 0 = dueI i) : fau1 t n = [] := flat_before _ _ fun k hk => if_pos (h k hk)
theorem fau2_nil {t : List (List Int)} {n : Nat} (h : ∀ i j, i < j → i + j < n → atT t i j = atT t j i) : fau2 t n = [] :=
  flat_before _ _ fun i _ => flat_before _ _ fun j _ => if_neg fun hh => hh.2.2 (h i j hh.1 hh.2.1)
theorem fau3_nil {m : Int} {t : List (List Int)} {n : Nat} (h : ∀ a b c, a + b + c < n → lefC m n t a b c = rigC m n t a b c) : fau3 m t n = [] :=
  flat_before _ _ fun a _ => flat_before _ _ fun b _ => flat_before _ _ fun c _ => if_neg fun hh => hh.2 (h a b c hh.1)
theorem fauL_1 {m : Int} {t : List (List Int)} {n i : Nat} (hi : i < n) (h : ∀ k, k < i → atT t k 0 = dueI k) (hx : atT t i 0 ≠ dueI i) : fauL m t n = [0, (i : Int)] := by
  obtain ⟨l, hl⟩ := flat_first (fun (i : Nat) => if atT t i 0 = dueI i then [] else [[0, (i : Int)]]) hi (fun k hk => if_pos (h k hk)) (if_neg hx)
  have hf : fau1 t n = [0, (i : Int)] :: l := hl
  unfold fauL
  rw [hf]; rfl
theorem fauL_2 {m : Int} {t : List (List Int)} {n i j : Nat} (hij : i < j) (hn : i + j < n) (h1 : ∀ k, k < n → atT t k 0 = dueI k) (hA : ∀ i', i' < i → ∀ j', i' < j' → i' + j' < n → atT t i' j' = atT t j' i')
    (hB : ∀ j', i < j' → j' < j → atT t i j' = atT t j' i) (hx : atT t i j ≠ atT t j i) : fauL m t n = [1, (i : Int), (j : Int)] := by
  obtain ⟨l, hl⟩ := flat_first (n := n) (fun (j : Nat) => if i < j ∧ i + j < n ∧ atT t i j ≠ atT t j i then [[1, (i : Int), (j : Int)]] else []) (show j < n by omega) (fun k hk => if_neg fun hh => hh.2.2 (hB k hh.1 hk)) (if_pos ⟨hij, hn, hx⟩)
  obtain ⟨l', hl'⟩ := flat_first (n := n) (fun (i : Nat) => (List.range n).flatMap (fun (j : Nat) => if i < j ∧ i + j < n ∧ atT t i j ≠ atT t j i then [[1, (i : Int), (j : Int)]] else [])) (show i < n by omega)
    (fun k hk => flat_before _ _ fun j _ => if_neg fun hh => hh.2.2 (hA k hk j hh.1 hh.2.1)) hl
  have hf : fau2 t n = [1, (i : Int), (j : Int)] :: l' := hl'
  unfold fauL
  rw [fau1_nil h1, hf]; rfl
theorem fauL_3 {m : Int} {t : List (List Int)} {n a b c : Nat} (hn : a + b + c < n) (h1 : ∀ k, k < n → atT t k 0 = dueI k) (h2 : ∀ i j, i < j → i + j < n → atT t i j = atT t j i)
    (hA : ∀ a', a' < a → ∀ b c, a' + b + c < n → lefC m n t a' b c = rigC m n t a' b c) (hB : ∀ b', b' < b → ∀ c, a + b' + c < n → lefC m n t a b' c = rigC m n t a b' c)
    (hC : ∀ c', c' < c → lefC m n t a b c' = rigC m n t a b c') (hx : lefC m n t a b c ≠ rigC m n t a b c) : fauL m t n = [2, (a : Int), (b : Int), (c : Int)] := by
  obtain ⟨l, hl⟩ := flat_first (n := n) (fun (c : Nat) => if a + b + c < n ∧ lefC m n t a b c ≠ rigC m n t a b c then [[2, (a : Int), (b : Int), (c : Int)]] else []) (show c < n by omega) (fun k hk => if_neg fun hh => hh.2 (hC k hk)) (if_pos ⟨hn, hx⟩)
  obtain ⟨l', hl'⟩ := flat_first (n := n) (fun (b : Nat) => (List.range n).flatMap (fun (c : Nat) => if a + b + c < n ∧ lefC m n t a b c ≠ rigC m n t a b c then [[2, (a : Int), (b : Int), (c : Int)]] else [])) (show b < n by omega)
    (fun k hk => flat_before _ _ fun c _ => if_neg fun hh => hh.2 (hB k hk c hh.1)) hl
  obtain ⟨l'', hl''⟩ := flat_first (n := n) (fun (a : Nat) => (List.range n).flatMap (fun (b : Nat) => (List.range n).flatMap (fun (c : Nat) => if a + b + c < n ∧ lefC m n t a b c ≠ rigC m n t a b c then [[2, (a : Int), (b : Int), (c : Int)]] else []))) (show a < n by omega)
    (fun k hk => flat_before _ _ fun b _ => flat_before _ _ fun c _ => if_neg fun hh => hh.2 (hA k hk b c hh.1)) hl'
  have hf : fau3 m t n = [2, (a : Int), (b : Int), (c : Int)] :: l'' := hl''
  unfold fauL
  rw [fau1_nil h1, fau2_nil h2, hf]; rfl
theorem fauL_0 {m : Int} {t : List (List Int)} {n : Nat} (h1 : ∀ k, k < n → atT t k 0 = dueI k) (h2 : ∀ i j, i < j → i + j < n → atT t i j = atT t j i)
    (h3 : ∀ a b c, a + b + c < n → lefC m n t a b c = rigC m n t a b c) : fauL m t n = [] := by
  unfold fauL
  rw [fau1_nil h1, fau2_nil h2, fau3_nil h3]; rfl

theorem mem_fau1 {t : List (List Int)} {n : Nat} {l : List Int} (h : l ∈ fau1 t n) : ∃ i : Nat, i < n ∧ l = [0, (i : Int)] ∧ atT t i 0 ≠ dueI i := by
  unfold fau1 at h
  obtain ⟨i, hi, hl⟩ := List.mem_flatMap.1 h
  split at hl
  · simp at hl
  · rename_i hne; exact ⟨i, List.mem_range.1 hi, by simpa using hl, hne⟩
theorem mem_fau2 {t : List (List Int)} {n : Nat} {l : List Int} (h : l ∈ fau2 t n) : ∃ i j : Nat, i < j ∧ i + j < n ∧ l = [1, (i : Int), (j : Int)] ∧ atT t i j ≠ atT t j i := by
  unfold fau2 at h
  obtain ⟨i, hi, hl⟩ := List.mem_flatMap.1 h
  obtain ⟨j, hj, hl⟩ := List.mem_flatMap.1 hl
  split at hl
  · rename_i hh; exact ⟨i, j, hh.1, hh.2.1, by simpa using hl, hh.2.2⟩
  · simp at hl
theorem mem_fau3 {m : Int} {t : List (List Int)} {n : Nat} {l : List Int} (h : l ∈ fau3 m t n) : ∃ a b c : Nat, a + b + c < n ∧ l = [2, (a : Int), (b : Int), (c : Int)] ∧ lefC m n t a b c ≠ rigC m n t a b c := by
  unfold fau3 at h
  obtain ⟨i, hi, hl⟩ := List.mem_flatMap.1 h
  obtain ⟨j, hj, hl⟩ := List.mem_flatMap.1 hl
  obtain ⟨c, hc, hl⟩ := List.mem_flatMap.1 hl
  split at hl
  · rename_i hh; exact ⟨i, j, c, hh.1, by simpa using hl, hh.2⟩
  · simp at hl
theorem fauL_nil {m : Int} {t : List (List Int)} {n : Nat} (h : fauL m t n = []) :
    (∀ k, k < n → atT t k 0 = dueI k) ∧ (∀ i j, i < j → i + j < n → atT t i j = atT t j i) ∧ (∀ a b c, a + b + c < n → lefC m n t a b c = rigC m n t a b c) := by
  have e : fau1 t n ++ (fau2 t n ++ fau3 m t n) = [] := by
    cases e : fau1 t n ++ (fau2 t n ++ fau3 m t n) with
    | nil => rfl
    | cons x l =>
      have hx : x ∈ fau1 t n ++ (fau2 t n ++ fau3 m t n) := by rw [e]; simp
      unfold fauL at h
      rw [e] at h
      have h : x = [] := h
      subst h
      rcases List.mem_append.1 hx with h | h
      · obtain ⟨i, -, h, -⟩ := mem_fau1 h; cases h
      · rcases List.mem_append.1 h with h | h
        · obtain ⟨i, j, -, -, h, -⟩ := mem_fau2 h; cases h
        · obtain ⟨a, b, c, -, h, -⟩ := mem_fau3 h; cases h
  have e1 : fau1 t n = [] := (List.append_eq_nil_iff.1 e).1
  have e2 : fau2 t n = [] := (List.append_eq_nil_iff.1 (List.append_eq_nil_iff.1 e).2).1
  have e3 : fau3 m t n = [] := (List.append_eq_nil_iff.1 (List.append_eq_nil_iff.1 e).2).2
  refine ⟨fun k hk => ?_, fun i j hij hn => ?_, fun a b c hn => ?_⟩
  · have := List.flatMap_eq_nil_iff.1 e1 k (List.mem_range.2 hk)
    by_cases hh : atT t k 0 = dueI k
    · exact hh
    · rw [if_neg hh] at this; cases this
  · have := List.flatMap_eq_nil_iff.1 (List.flatMap_eq_nil_iff.1 e2 i (List.mem_range.2 (by omega))) j (List.mem_range.2 (by omega))
    by_cases hh : atT t i j = atT t j i
    · exact hh
    · rw [if_pos ⟨hij, hn, hh⟩] at this; cases this
  · have := List.flatMap_eq_nil_iff.1 (List.flatMap_eq_nil_iff.1 (List.flatMap_eq_nil_iff.1 e3 a (List.mem_range.2 (by omega))) b (List.mem_range.2 (by omega))) c (List.mem_range.2 (by omega))
    by_cases hh : lefC m n t a b c = rigC m n t a b c
    · exact hh
    · rw [if_pos ⟨hn, hh⟩] at this; cases this

def colT (t : List (List Int)) (n j : Nat) : List Int := mk (n - j) (fun i => atT t i j)
theorem colT_len (t : List (List Int)) (n j : Nat) : (colT t n j).length = n - j := mk_len _ _
theorem left_eq {m : Int} {n : Nat} {t : List (List Int)} {a b c : Nat} (h : a + b + c < n) : atT (hornT m n t (colT t n c)) a b = lefC m n t a b c := by
  rw [hornT_pow _ (by omega), colT_len]
  unfold lefC
  congr 1
  exact sumN_ext fun k hk => by unfold colT; rw [mk_at hk]
theorem right_eq {m : Int} {n : Nat} {t : List (List Int)} (ht : PlaT m n t) {a b c : Nat} (h : a + b + c < n) (row : List Int) (hr : t[a]? = some row) : atT (hornT m n t row) b c = rigC m n t a b c := by
  obtain ⟨hl, rfl⟩ := List.getElem?_eq_some_iff.1 hr
  rw [hornT_pow _ (by omega), (ht.2 a hl).1, ht.1]
  unfold rigC
  congr 1
  exact sumN_ext fun k hk => by rw [atT_row hl]
end Go.Proofs.YteijannfbafdpaaGreatDoor

/- The defects of a table, as they are added up. No program stands here. -/
set_option linter.unusedSimpArgs false
set_option linter.unusedVariables false
namespace Go.Proofs.YteijannfbafdpaaGreatDoor

theorem sumR_bound {m : Int} (hm : 0 < m) (hm' : m ≤ 10000) (f : Nat → Int) (k : Nat) : 0 ≤ sumN k (fun i => f i % m) ∧ sumN k (fun i => f i % m) ≤ (k : Int) * 10000 := by
  induction k with
  | zero => simp [sumN]
  | succ k ih =>
    simp only [sumN]
    have := mod_lt' (a := f k) hm
    have e : ((k + 1 : Nat) : Int) * 10000 = (k : Int) * 10000 + 10000 := by omega
    omega
theorem sumR_mod (m : Int) (f : Nat → Int) (k : Nat) : sumN k (fun i => f i % m) % m = sumN k f % m := sumN_mod fun i _ => emod_idem _ _
def lefS (m : Int) (n : Nat) (t : List (List Int)) (a b c k : Nat) : Int := sumN k (fun i => atT t i c * atT (powT m n t i) a b % m)
def rigS (m : Int) (n : Nat) (t : List (List Int)) (a b c k : Nat) : Int := sumN k (fun j => atT t a j * atT (powT m n t j) b c % m)
def defC (m : Int) (n : Nat) (t : List (List Int)) (a b c : Nat) : Int := (lefS m n t a b c (n - c) - rigS m n t a b c (n - a)) % m
theorem defC_0 {m : Int} {n : Nat} {t : List (List Int)} {a b c : Nat} : (defC m n t a b c != 0) = true ↔ lefC m n t a b c ≠ rigC m n t a b c := by
  have e : defC m n t a b c = 0 ↔ lefC m n t a b c = rigC m n t a b c := by
    unfold defC lefC rigC
    rw [← sumR_mod m (fun i => atT t i c * atT (powT m n t i) a b), ← sumR_mod m (fun j => atT t a j * atT (powT m n t j) b c)]
    exact Int.emod_eq_emod_iff_emod_sub_eq_zero.symm
  rw [bne_iff_ne, ne_eq, e]
theorem defC_1 {m : Int} {n : Nat} {t : List (List Int)} {a b c : Nat} (h : (defC m n t a b c != 0) = false) : lefC m n t a b c = rigC m n t a b c := by
  by_cases e : lefC m n t a b c = rigC m n t a b c
  · exact e
  · rw [defC_0.2 e] at h; cases h
theorem lefS_step (m : Int) (n : Nat) (t : List (List Int)) (a b c k : Nat) : lefS m n t a b c (k + 1) = lefS m n t a b c k + atT t k c * atT (powT m n t k) a b % m := rfl
theorem rigS_step (m : Int) (n : Nat) (t : List (List Int)) (a b c k : Nat) : rigS m n t a b c (k + 1) = rigS m n t a b c k + atT t a k * atT (powT m n t k) b c % m := rfl
end Go.Proofs.YteijannfbafdpaaGreatDoor

/- Where two tables agree; their first difference; the inverse of a law, one coefficient after the other. No program stands here. -/
set_option linter.unusedSimpArgs false
set_option linter.unusedVariables false
namespace Go.Proofs.YteijannfbafdpaaGreatDoor

def agrA (t s : List (List Int)) (d : Nat) : Bool := (List.range (d + 1)).all (fun i => atT t i (d - i) == atT s i (d - i))
theorem agrA_t {t s : List (List Int)} {d : Nat} (h : ∀ i, i ≤ d → atT t i (d - i) = atT s i (d - i)) : agrA t s d = true := by
  unfold agrA
  rw [List.all_eq_true]
  intro i hi
  have := List.mem_range.1 hi
  simpa using h i (by omega)
def agrK (t s : List (List Int)) (n : Nat) : Nat := ((List.range n).flatMap (fun d => if agrA t s d then [] else [d])).headD n
theorem agrK_at {t s : List (List Int)} {n k : Nat} (hk : k < n) (h : ∀ d, d < k → agrA t s d = true) (hx : agrA t s k = false) : agrK t s n = k := by
  obtain ⟨l, hl⟩ := flat_first (fun d => if agrA t s d then [] else [d]) hk (fun d hd => by simp [h d hd]) (x := k) (l := []) (by simp [hx])
  unfold agrK
  rw [hl]; rfl
theorem agrK_all {t s : List (List Int)} {n : Nat} (h : ∀ d, d < n → agrA t s d = true) : agrK t s n = n := by
  unfold agrK
  rw [flat_before _ _ (fun d hd => by simp [h d hd])]; rfl
def varL (n : Nat) : List Int := (List.replicate n 0).set 1 1
theorem varL_len (n : Nat) : (varL n).length = n := by simp [varL]
theorem varL_range {m : Int} (hm : 2 ≤ m) (n : Nat) : ∀ x ∈ varL n, 0 ≤ x ∧ x < m := by
  intro x hx
  rcases List.mem_or_eq_of_mem_set hx with h | rfl
  · simp at h; omega
  · omega
end Go.Proofs.YteijannfbafdpaaGreatDoor

/- The table of a curve of x and a curve of y put into a plane, while it is made place by place. No program stands here. -/
set_option linter.unusedSimpArgs false
set_option linter.unusedVariables false
namespace Go.Proofs.YteijannfbafdpaaGreatDoor

def bpF (n : Nat) (t : Nat → Nat → Int) (P Q : Nat → List Int) (i j k l p q : Nat) : Int := if (i ≤ p ∧ j ≤ q) ∧ (p < k ∨ (p = k ∧ q < l)) then botS n t P Q i (j + 1) p q else botS n t P Q i j p q
def bpT (m : Int) (n : Nat) (t : Nat → Nat → Int) (P Q : Nat → List Int) (i j k l : Nat) : List (List Int) := tri n (fun p q => bpF n t P Q i j k l p q % m)
def bpR (m : Int) (n : Nat) (t : Nat → Nat → Int) (P Q : Nat → List Int) (i j k l : Nat) : List Int := mk (n - k) (fun q => bpF n t P Q i j k l k q % m)
theorem bpR_len (m : Int) (n : Nat) (t : Nat → Nat → Int) (P Q : Nat → List Int) (i j k l : Nat) : (bpR m n t P Q i j k l).length = n - k := mk_len _ _
theorem bpT_row {m : Int} {n : Nat} {t : Nat → Nat → Int} {P Q : Nat → List Int} {i j k l : Nat} (h : k < n) : (bpT m n t P Q i j k l)[k]? = some (bpR m n t P Q i j k l) := tri_get h
theorem bpR_get {m : Int} {n : Nat} {t : Nat → Nat → Int} {P Q : Nat → List Int} {i j k l : Nat} (h : k + l < n) : (bpR m n t P Q i j k l)[l]? = some (botS n t P Q i j k l % m) := by
  unfold bpR
  rw [mk_get (by omega)]
  unfold bpF
  rw [if_neg (by omega)]
theorem bpT_0 {m : Int} {n : Nat} {t : Nat → Nat → Int} {P Q : Nat → List Int} {i j : Nat} : botTo m n t P Q i j = bpT m n t P Q i j i j :=
  tri_ext fun p q _ => by unfold bpF; rw [if_neg (by omega)]
theorem bpT_skip {m : Int} {n : Nat} {t : Nat → Nat → Int} {P Q : Nat → List Int} {i j k l : Nat} (h : t i j = 0) : bpT m n t P Q i j k l = botTo m n t P Q i (j + 1) :=
  tri_ext fun p q _ => by
    unfold bpF
    have e : botS n t P Q i j p q = botS n t P Q i (j + 1) p q := by rw [botS_step, h, Int.zero_mul, Int.add_zero]
    rw [e, ite_self]
theorem bpT_line {m : Int} {n : Nat} {t : Nat → Nat → Int} {P Q : Nat → List Int} {i j k l : Nat} (h : n ≤ k + l) : bpT m n t P Q i j k l = bpT m n t P Q i j (k + 1) j :=
  tri_ext fun p q hpq => by
    unfold bpF
    by_cases e : (i ≤ p ∧ j ≤ q) ∧ (p < k ∨ (p = k ∧ q < l))
    · rw [if_pos e, if_pos (by omega)]
    · rw [if_neg e, if_neg (by omega)]
theorem bpT_all {m : Int} {n : Nat} {t : Nat → Nat → Int} {P Q : Nat → List Int} {i j l : Nat} (hP : ∀ k, k < i → at0 (P i) k = 0) (hQ : ∀ k, k < j → at0 (Q j) k = 0) : bpT m n t P Q i j n l = botTo m n t P Q i (j + 1) :=
  tri_ext fun p q hpq => by
    unfold bpF
    by_cases e : i ≤ p ∧ j ≤ q
    · rw [if_pos (by omega)]
    · rw [if_neg (by omega), botS_step]
      have : at0 (P i) p * at0 (Q j) q = 0 := by
        by_cases e1 : p < i
        · rw [hP p e1, Int.zero_mul]
        · rw [hQ q (by omega), Int.mul_zero]
      rw [this, Int.mul_zero, Int.add_zero]
theorem bp_num {m : Int} {n : Nat} {t : Nat → Nat → Int} {P Q : Nat → List Int} {i j k l : Nat} :
    (botS n t P Q i j k l % m + t i j * at0 (P i) k % m * at0 (Q j) l) % m = botS n t P Q i (j + 1) k l % m := by
  rw [botS_step]
  refine emod_congr_add (emod_idem _ _) ?_
  rw [← Int.mul_assoc]
  exact emod_congr_mul (emod_idem _ _) rfl
theorem bpT_set {m : Int} {n : Nat} {t : Nat → Nat → Int} {P Q : Nat → List Int} {i j k l : Nat} (hi : i ≤ k) (hj : j ≤ l) (h : k + l < n) :
    (bpT m n t P Q i j k l).set k ((bpR m n t P Q i j k l).set l ((botS n t P Q i j k l % m + t i j * at0 (P i) k % m * at0 (Q j) l) % m)) = bpT m n t P Q i j k (l + 1) := by
  rw [bp_num]
  unfold bpT bpR
  rw [tri_set (f := fun p q => bpF n t P Q i j k l p q % m) h]
  refine tri_ext fun p q hpq => ?_
  unfold bpF
  by_cases e : p = k ∧ q = l
  · obtain ⟨rfl, rfl⟩ := e
    rw [if_pos ⟨rfl, rfl⟩, if_pos (by omega)]
  · rw [if_neg e]
    by_cases e2 : (i ≤ p ∧ j ≤ q) ∧ (p < k ∨ (p = k ∧ q < l))
    · rw [if_pos e2, if_pos (by omega)]
    · rw [if_neg e2, if_neg (by omega)]
end Go.Proofs.YteijannfbafdpaaGreatDoor

/- A region that draws its order, walked along one order: what only reads is taken first, though the region's last operation (number s) writes what is read. No program stands here. -/
set_option linter.unusedSimpArgs false
set_option linter.unusedVariables false
namespace Go.Proofs.YteijannfbafdpaaGreatDoor
open Go
section
variable {P : Program} {ops : Array Oper} {Q : Exit → Act → World → Prop} {md : Region.Mode} {S : World → Prop}

def wpAnyS (P : Program) (md : Region.Mode) (ops : Array Oper) (Q : Exit → Act → World → Prop) (S : World → Prop) (s : Nat) : Nat → Array Bool → Act → World → Prop
  | 0, listed, a, w => Region.ready md ops listed = [] ∧ Q .normal a w
  | fuel + 1, listed, a, w =>
    (Region.ready md ops listed = [] → Q .normal a w) ∧
    ∀ i ∈ Region.ready md ops listed, wpOp P ops Q i (fun a' w' => (i < s → S w') ∧ wpAnyS P md ops Q S s fuel (listed.setIfInBounds i true) a' w') a w

theorem wpAny_of_S {s : Nat} : ∀ (fuel : Nat) (listed : Array Bool) (a : Act) (w : World), wpAnyS P md ops Q S s fuel listed a w → wpAny P md ops Q fuel listed a w
  | 0, _, _, _, h => h
  | fuel + 1, _, _, _, h => ⟨h.1, fun i hi => wpOp_mono (fun a' w' h' => wpAny_of_S fuel _ a' w' h'.2) (h.2 i hi)⟩

def waitsB (md : Region.Mode) (ops : Array Oper) (s i : Nat) : Bool := match ops[s]? with
  | some o => o.after.any fun e => Region.binds md e && e.on == i
  | none => false
theorem waits_not {s i : Nat} {listed : Array Bool} (h : waitsB md ops s i = true) (hu : listed.getD i true = false) : s ∉ Region.ready md ops listed := by
  intro hs
  obtain ⟨-, o, ho, hall⟩ := mem_ready.1 hs
  unfold waitsB at h
  rw [ho] at h
  obtain ⟨e, he, hb⟩ := Array.any_eq_true'.1 h
  simp only [Bool.and_eq_true, beq_iff_eq] at hb
  have h1 := hall e he hb.1
  rw [hb.2] at h1
  rcases Nat.lt_or_ge i listed.size with h' | h'
  · simp [h'] at hu h1; rw [hu] at h1; cases h1
  · simp [Array.getElem?_eq_none h'] at h1

def waitsAll (md : Region.Mode) (ops : Array Oper) (s i : Nat) : Bool := (List.range ops.size).all fun j => decide (j < s) || waitsB md ops j i
theorem waitsAll_spec {s i : Nat} (h : waitsAll md ops s i = true) : ∀ j, s ≤ j → j < ops.size → waitsB md ops j i = true := by
  intro j h1 h2
  have := List.all_eq_true.1 h j (List.mem_range.2 h2)
  simp only [Bool.or_eq_true, decide_eq_true_eq] at this
  rcases this with h | h
  · omega
  · exact h

theorem wpAnyS_first {s i : Nat} {oi : Oper} {v : Value} (hi : ops[i]? = some oi) (hsel : ∀ (j : Nat) (o : Oper) cs b, ops[j]? = some o → o.op ≠ .select cs b) (his : i < s) (hw : ∀ j, s ≤ j → j < ops.size → waitsB md ops j i = true)
    (hQ : ∀ c a w, Q (.panic c) (a.put oi.dst v) w → Q (.panic c) a w) :
    ∀ (fuel : Nat) (listed : Array Bool) (a : Act) (w : World),
      (∀ j oj, ops[j]? = some oj → j ≠ i → listed.getD j true = false → (∀ e ∈ oj.after, Region.binds md e = true → e.on ≠ i) → oi.apart ops oj = true) →
      i ∈ Region.ready md ops listed → YieldsIf P ops S oi v a → S w →
      wpAnyS P md ops Q S s fuel (listed.setIfInBounds i true) (a.put oi.dst v) w → wpAnyS P md ops Q S s (fuel + 1) listed a w := by
  intro fuel
  induction fuel with
  | zero =>
    intro listed a w _ hr hy hS H
    refine ⟨fun h => (by rw [h] at hr; cases hr), fun j hj => ?_⟩
    by_cases hji : j = i
    · subst hji; exact hy.wpOp hi hS ⟨fun _ => hS, H⟩
    · have := ready_mono hj hji
      rw [H.1] at this
      cases this
  | succ fuel ih =>
    intro listed a w hfree hr hy hS H
    refine ⟨fun h => (by rw [h] at hr; cases hr), fun j hj => ?_⟩
    by_cases hji : j = i
    · subst hji; exact hy.wpOp hi hS ⟨fun _ => hS, H⟩
    · have h1 := H.2 j (ready_mono hj hji)
      obtain ⟨hjun, oj, hoj, hall⟩ := mem_ready.1 hj
      have hjs : j < s := Classical.byContradiction fun e => waits_not (hw j (by omega) (Array.getElem?_eq_some_iff.1 hoj).1) (mem_ready.1 hr).1 hj
      have hnot : ∀ e ∈ oj.after, Region.binds md e = true → e.on ≠ i := fun e he hb heq => by
        have h1 := hall e he hb
        have h0 := (mem_ready.1 hr).1
        rw [heq] at h1
        rcases Nat.lt_or_ge i listed.size with h' | h'
        · simp [h'] at h0 h1; rw [h0] at h1; cases h1
        · simp [Array.getElem?_eq_none h'] at h1
      have h2 := wpOp_putIf hoj (hfree j oj hoj hji hjun hnot) (fun cs b => hsel i oi cs b hi) (fun cs b => hsel j oj cs b hoj) hQ hy h1
      have hfree' : ∀ k ok, ops[k]? = some ok → k ≠ i → (listed.setIfInBounds j true).getD k true = false →
          (∀ e ∈ ok.after, Region.binds md e = true → e.on ≠ i) → oi.apart ops ok = true := fun k ok hk hki hun hno => by
        refine hfree k ok hk hki ?_ hno
        by_cases hjk : j = k
        · subst hjk; exact hjun
        · rw [getD_set_ne true hjk] at hun; exact hun
      refine wpOp_mono (fun a' w' h3 => ⟨fun _ => h3.2.1 hjs, ih (listed.setIfInBounds j true) a' w' hfree' (ready_mono hr (Ne.symm hji)) h3.1 (h3.2.1 hjs) ?_⟩) h2
      rw [Array.setIfInBounds_comm _ _ hji]
      exact h3.2.2

theorem wpAnyS_take {s i : Nat} {oi : Oper} {v : Value} {fuel : Nat} {listed : Array Bool} {a : Act} {w : World} (hi : ops[i]? = some oi)
    (hs : Region.noSelect ops = true) (hf : Region.free md ops listed i = true) (hr : (Region.ready md ops listed).contains i = true) (his : (decide (i < s) && waitsAll md ops s i) = true)
    (hQ : ∀ c a w, Q (.panic c) (a.put oi.dst v) w → Q (.panic c) a w) (hy : YieldsIf P ops S oi v a) (hS : S w)
    (h : wpAnyS P md ops Q S s fuel (listed.setIfInBounds i true) (a.put oi.dst v) w) : wpAnyS P md ops Q S s (fuel + 1) listed a w := by
  simp only [Bool.and_eq_true, decide_eq_true_eq] at his
  exact wpAnyS_first hi (Region.noSelect_spec hs) his.1 (waitsAll_spec his.2) hQ fuel listed a w (Region.free_spec hi hf) (by simpa using hr) hy hS h

theorem toL {i : Nat} {o : Oper} (h : ops.toList[i]? = some o) : ops[i]? = some o := by rw [← Array.getElem?_toList]; exact h
theorem wpAnyS_takeL {s i : Nat} {oi : Oper} {v : Value} {fuel : Nat} {listed : Array Bool} {a : Act} {w : World} (hi : ops.toList[i]? = some oi)
    (hs : Region.noSelect ops = true) (hf : Region.free md ops listed i = true) (hr : (Region.ready md ops listed).contains i = true) (his : (decide (i < s) && waitsAll md ops s i) = true)
    (hQ : ∀ c a w, Q (.panic c) (a.put oi.dst v) w → Q (.panic c) a w) (hy : YieldsIf P ops S oi v a) (hS : S w)
    (h : wpAnyS P md ops Q S s fuel (listed.setIfInBounds i true) (a.put oi.dst v) w) : wpAnyS P md ops Q S s (fuel + 1) listed a w :=
  wpAnyS_take (toL hi) hs hf hr his hQ hy hS h

theorem wpAnyS_one {s i : Nat} {o : Oper} {fuel : Nat} {listed : Array Bool} {a : Act} {w : World} (ho : ops[i]? = some o) (hr : Region.ready md ops listed = [i])
    (h : ∀ K' : Act → World → Prop, Shut (∀ a w, (i < s → S w) → wpAnyS P md ops Q S s fuel (listed.setIfInBounds i true) a w → K' a w) → if Region.wanted o (yielded ops a.tmps) = true then Oper.wp P o a w K' Q else K' (a.put o.dst undef) w) :
    wpAnyS P md ops Q S s (fuel + 1) listed a w :=
  ⟨fun h0 => absurd (hr ▸ h0) (by simp), fun j hj => by
    rw [hr] at hj
    obtain rfl : j = i := by simpa using hj
    exact wpOp_step ho (fun K' hK => h K' (fun a w hS hW => hK a w ⟨hS, hW⟩))⟩

theorem wpAnyS_oneL {s i : Nat} {o : Oper} {fuel : Nat} {listed : Array Bool} {a : Act} {w : World} (ho : ops.toList[i]? = some o) (hr : Region.ready md ops listed = [i])
    (h : ∀ K' : Act → World → Prop, Shut (∀ a w, (i < s → S w) → wpAnyS P md ops Q S s fuel (listed.setIfInBounds i true) a w → K' a w) → if Region.wanted o (yielded ops a.tmps) = true then Oper.wp P o a w K' Q else K' (a.put o.dst undef) w) :
    wpAnyS P md ops Q S s (fuel + 1) listed a w := wpAnyS_one (toL ho) hr h

theorem wpAnyS_done {s : Nat} {listed : Array Bool} {a : Act} {w : World} (hr : Region.ready md ops listed = []) (h : Q .normal a w) :
    ∀ fuel, wpAnyS P md ops Q S s fuel listed a w
  | 0 => ⟨hr, h⟩
  | _ + 1 => ⟨fun _ => h, by rw [hr]; simp⟩

theorem wp_region_S {id : Nat} {a : Act} {w : World} (s : Nat) (hm : P.follows .mixedOrders = true)
    (h : wpAnyS P .any ops Q S s ops.size (Array.replicate ops.size false) a w.drew) : (Code.region id ops true).wp P Q a w :=
  wp_region_any hm (wpAny_of_S _ _ _ _ h)
end
end Go.Proofs.YteijannfbafdpaaGreatDoor

/- A region that draws its order, walked along one order: what only reads is taken first; a condition S holds behind every operation but those that are exempt. No program stands here. -/
set_option linter.unusedSimpArgs false
set_option linter.unusedVariables false
namespace Go.Proofs.YteijannfbafdpaaGreatDoor
open Go
section
variable {P : Program} {ops : Array Oper} {Q : Exit → Act → World → Prop} {md : Region.Mode} {S : World → Prop} {ex : List Nat}

def wpAnyK (P : Program) (md : Region.Mode) (ops : Array Oper) (Q : Exit → Act → World → Prop) (S : World → Prop) (ex : List Nat) : Nat → Array Bool → Act → World → Prop
  | 0, listed, a, w => Region.ready md ops listed = [] ∧ Q .normal a w
  | fuel + 1, listed, a, w =>
    (Region.ready md ops listed = [] → Q .normal a w) ∧
    ∀ i ∈ Region.ready md ops listed, wpOp P ops Q i (fun a' w' => (ex.contains i = false → S w') ∧ wpAnyK P md ops Q S ex fuel (listed.setIfInBounds i true) a' w') a w

theorem wpAny_of_K : ∀ (fuel : Nat) (listed : Array Bool) (a : Act) (w : World), wpAnyK P md ops Q S ex fuel listed a w → wpAny P md ops Q fuel listed a w
  | 0, _, _, _, h => h
  | fuel + 1, _, _, _, h => ⟨h.1, fun i hi => wpOp_mono (fun a' w' h' => wpAny_of_K fuel _ a' w' h'.2) (h.2 i hi)⟩

def depL (md : Region.Mode) (ops : Array Oper) (i : Nat) : List Nat := (List.range ops.size).foldl (fun L j => if waitsB md ops j i || L.any (fun k => waitsB md ops j k) then j :: L else L) []
def lockB (md : Region.Mode) (ops : Array Oper) (ex : List Nat) (listed : Array Bool) (i : Nat) (L : List Nat) : Bool :=
  L.all (fun j => waitsB md ops j i || L.any (fun k => waitsB md ops j k)) && L.all (fun j => !listed.getD j true) && ex.all (fun j => listed.getD j false || L.contains j) && !ex.contains i
def Lock (md : Region.Mode) (ops : Array Oper) (ex : List Nat) (i : Nat) (L : List Nat) (listed : Array Bool) : Prop :=
  (∀ j ∈ L, waitsB md ops j i = true ∨ ∃ k ∈ L, waitsB md ops j k = true) ∧ (∀ j ∈ L, listed.getD j true = false) ∧ (∀ j ∈ ex, listed.getD j false = true ∨ j ∈ L) ∧ ex.contains i = false
theorem lock_of {i : Nat} {L : List Nat} {listed : Array Bool} (h : lockB md ops ex listed i L = true) : Lock md ops ex i L listed := by
  simp only [lockB, Bool.and_eq_true, List.all_eq_true, Bool.or_eq_true, List.any_eq_true, Bool.not_eq_true', List.contains_iff_mem] at h
  obtain ⟨⟨⟨h1, h2⟩, h3⟩, h4⟩ := h
  refine ⟨fun j hj => h1 j hj, h2, h3, ?_⟩
  simpa using h4
theorem Lock.out {i : Nat} {L : List Nat} {listed : Array Bool} (h : Lock md ops ex i L listed) (hi : listed.getD i true = false) {j : Nat} (hj : j ∈ Region.ready md ops listed) : j ∉ L := by
  intro hL
  rcases h.1 j hL with h1 | ⟨k, hk, h1⟩
  · exact waits_not h1 hi hj
  · exact waits_not h1 (h.2.1 k hk) hj
theorem Lock.set {i : Nat} {L : List Nat} {listed : Array Bool} (h : Lock md ops ex i L listed) {j : Nat} (hj : j ∉ L) : Lock md ops ex i L (listed.setIfInBounds j true) :=
  ⟨h.1, fun k hk => by rw [getD_set_ne true (show j ≠ k from fun e => hj (by rw [e]; exact hk))]; exact h.2.1 k hk, fun k hk => (h.2.2.1 k hk).imp getD_set_true id, h.2.2.2⟩
theorem Lock.keeps {i : Nat} {L : List Nat} {listed : Array Bool} (h : Lock md ops ex i L listed) (hi : listed.getD i true = false) {j : Nat} (hj : j ∈ Region.ready md ops listed) : ex.contains j = false := by
  cases e : ex.contains j
  · rfl
  · have hm : j ∈ ex := by simpa using e
    rcases h.2.2.1 j hm with h1 | h1
    · have h0 := (mem_ready.1 hj).1
      rcases Nat.lt_or_ge j listed.size with h' | h'
      · simp [h'] at h0 h1; rw [h0] at h1; cases h1
      · simp [Array.getElem?_eq_none h'] at h1
    · exact absurd h1 (h.out hi hj)

theorem not_on {i j : Nat} {oj : Oper} {listed : Array Bool} (hi : listed.getD i true = false) (hall : ∀ e ∈ oj.after, Region.binds md e = true → listed.getD e.on false = true) : ∀ e ∈ oj.after, Region.binds md e = true → e.on ≠ i := fun e he hb heq => by
  have h1 := hall e he hb
  rw [heq] at h1
  rcases Nat.lt_or_ge i listed.size with h' | h'
  · simp [h'] at hi h1; rw [hi] at h1; cases h1
  · simp [Array.getElem?_eq_none h'] at h1

theorem wpAnyK_first {i : Nat} {L : List Nat} {oi : Oper} {v : Value} (hi : ops[i]? = some oi) (hsel : ∀ (j : Nat) (o : Oper) cs b, ops[j]? = some o → o.op ≠ .select cs b)
    (hQ : ∀ c a w, Q (.panic c) (a.put oi.dst v) w → Q (.panic c) a w) :
    ∀ (fuel : Nat) (listed : Array Bool) (a : Act) (w : World),
      (∀ j oj, ops[j]? = some oj → j ≠ i → listed.getD j true = false → (∀ e ∈ oj.after, Region.binds md e = true → e.on ≠ i) → oi.apart ops oj = true) →
      Lock md ops ex i L listed → i ∈ Region.ready md ops listed → YieldsIf P ops S oi v a → S w →
      wpAnyK P md ops Q S ex fuel (listed.setIfInBounds i true) (a.put oi.dst v) w → wpAnyK P md ops Q S ex (fuel + 1) listed a w := by
  intro fuel
  induction fuel with
  | zero =>
    intro listed a w _ _ hr hy hS H
    refine ⟨fun h => (by rw [h] at hr; cases hr), fun j hj => ?_⟩
    by_cases hji : j = i
    · subst hji; exact hy.wpOp hi hS ⟨fun _ => hS, H⟩
    · have := ready_mono hj hji
      rw [H.1] at this
      cases this
  | succ fuel ih =>
    intro listed a w hfree hlock hr hy hS H
    refine ⟨fun h => (by rw [h] at hr; cases hr), fun j hj => ?_⟩
    by_cases hji : j = i
    · subst hji; exact hy.wpOp hi hS ⟨fun _ => hS, H⟩
    · have h1 := H.2 j (ready_mono hj hji)
      obtain ⟨hjun, oj, hoj, hall⟩ := mem_ready.1 hj
      have hiun := (mem_ready.1 hr).1
      have hjs := hlock.keeps hiun hj
      have hnot := not_on (j := j) hiun hall
      have h2 := wpOp_putIf hoj (hfree j oj hoj hji hjun hnot) (fun cs b => hsel i oi cs b hi) (fun cs b => hsel j oj cs b hoj) hQ hy h1
      have hfree' : ∀ k ok, ops[k]? = some ok → k ≠ i → (listed.setIfInBounds j true).getD k true = false →
          (∀ e ∈ ok.after, Region.binds md e = true → e.on ≠ i) → oi.apart ops ok = true := fun k ok hk hki hun hno => by
        refine hfree k ok hk hki ?_ hno
        by_cases hjk : j = k
        · subst hjk; exact hjun
        · rw [getD_set_ne true hjk] at hun; exact hun
      refine wpOp_mono (fun a' w' h3 => ⟨fun _ => h3.2.1 hjs, ih (listed.setIfInBounds j true) a' w' hfree' (hlock.set (hlock.out hiun hj)) (ready_mono hr (Ne.symm hji)) h3.1 (h3.2.1 hjs) ?_⟩) h2
      rw [Array.setIfInBounds_comm _ _ hji]
      exact h3.2.2

theorem wpAnyK_pure {i : Nat} {oi : Oper} {v : Value} (hi : ops[i]? = some oi) (hsel : ∀ (j : Nat) (o : Oper) cs b, ops[j]? = some o → o.op ≠ .select cs b)
    (hQ : ∀ c a w, Q (.panic c) (a.put oi.dst v) w → Q (.panic c) a w) (hex : ex.contains i = true) :
    ∀ (fuel : Nat) (listed : Array Bool) (a : Act) (w : World),
      (∀ j oj, ops[j]? = some oj → j ≠ i → listed.getD j true = false → (∀ e ∈ oj.after, Region.binds md e = true → e.on ≠ i) → oi.apart ops oj = true) →
      i ∈ Region.ready md ops listed → YieldsIf P ops (fun _ => True) oi v a →
      wpAnyK P md ops Q S ex fuel (listed.setIfInBounds i true) (a.put oi.dst v) w → wpAnyK P md ops Q S ex (fuel + 1) listed a w := by
  intro fuel
  induction fuel with
  | zero =>
    intro listed a w _ hr hy H
    refine ⟨fun h => (by rw [h] at hr; cases hr), fun j hj => ?_⟩
    by_cases hji : j = i
    · subst hji; exact hy.wpOp hi trivial ⟨fun h => absurd (hex.symm.trans h) (by decide), H⟩
    · have := ready_mono hj hji
      rw [H.1] at this
      cases this
  | succ fuel ih =>
    intro listed a w hfree hr hy H
    refine ⟨fun h => (by rw [h] at hr; cases hr), fun j hj => ?_⟩
    by_cases hji : j = i
    · subst hji; exact hy.wpOp hi trivial ⟨fun h => absurd (hex.symm.trans h) (by decide), H⟩
    · have h1 := H.2 j (ready_mono hj hji)
      obtain ⟨hjun, oj, hoj, hall⟩ := mem_ready.1 hj
      have hiun := (mem_ready.1 hr).1
      have hnot := not_on (j := j) hiun hall
      have h2 := wpOp_putIf hoj (hfree j oj hoj hji hjun hnot) (fun cs b => hsel i oi cs b hi) (fun cs b => hsel j oj cs b hoj) hQ hy h1
      have hfree' : ∀ k ok, ops[k]? = some ok → k ≠ i → (listed.setIfInBounds j true).getD k true = false →
          (∀ e ∈ ok.after, Region.binds md e = true → e.on ≠ i) → oi.apart ops ok = true := fun k ok hk hki hun hno => by
        refine hfree k ok hk hki ?_ hno
        by_cases hjk : j = k
        · subst hjk; exact hjun
        · rw [getD_set_ne true hjk] at hun; exact hun
      refine wpOp_mono (fun a' w' h3 => ⟨h3.2.1, ih (listed.setIfInBounds j true) a' w' hfree' (ready_mono hr (Ne.symm hji)) h3.1 ?_⟩) h2
      rw [Array.setIfInBounds_comm _ _ hji]
      exact h3.2.2

theorem wpAnyK_takeL {i : Nat} {oi : Oper} {v : Value} {fuel : Nat} {listed : Array Bool} {a : Act} {w : World} (hi : ops.toList[i]? = some oi)
    (hs : Region.noSelect ops = true) (hf : Region.free md ops listed i = true) (hr : (Region.ready md ops listed).contains i = true) (hl : lockB md ops ex listed i (depL md ops i) = true)
    (hQ : ∀ c a w, Q (.panic c) (a.put oi.dst v) w → Q (.panic c) a w) (hy : YieldsIf P ops S oi v a) (hS : S w)
    (h : wpAnyK P md ops Q S ex fuel (listed.setIfInBounds i true) (a.put oi.dst v) w) : wpAnyK P md ops Q S ex (fuel + 1) listed a w :=
  wpAnyK_first (toL hi) (Region.noSelect_spec hs) hQ fuel listed a w (Region.free_spec (toL hi) hf) (lock_of hl) (by simpa using hr) hy hS h
theorem wpAnyK_pureL {i : Nat} {oi : Oper} {v : Value} {fuel : Nat} {listed : Array Bool} {a : Act} {w : World} (hi : ops.toList[i]? = some oi)
    (hs : Region.noSelect ops = true) (hf : Region.free md ops listed i = true) (hr : (Region.ready md ops listed).contains i = true) (hex : ex.contains i = true)
    (hQ : ∀ c a w, Q (.panic c) (a.put oi.dst v) w → Q (.panic c) a w) (hy : YieldsIf P ops (fun _ => True) oi v a)
    (h : wpAnyK P md ops Q S ex fuel (listed.setIfInBounds i true) (a.put oi.dst v) w) : wpAnyK P md ops Q S ex (fuel + 1) listed a w :=
  wpAnyK_pure (toL hi) (Region.noSelect_spec hs) hQ hex fuel listed a w (Region.free_spec (toL hi) hf) (by simpa using hr) hy h
theorem wpAnyK_oneL {i : Nat} {o : Oper} {fuel : Nat} {listed : Array Bool} {a : Act} {w : World} (ho : ops.toList[i]? = some o) (hr : Region.ready md ops listed = [i])
    (h : ∀ K' : Act → World → Prop, Shut (∀ a w, (ex.contains i = false → S w) → wpAnyK P md ops Q S ex fuel (listed.setIfInBounds i true) a w → K' a w) → if Region.wanted o (yielded ops a.tmps) = true then Oper.wp P o a w K' Q else K' (a.put o.dst undef) w) :
    wpAnyK P md ops Q S ex (fuel + 1) listed a w :=
  ⟨fun h0 => absurd (hr ▸ h0) (by simp), fun j hj => by
    rw [hr] at hj
    obtain rfl : j = i := by simpa using hj
    exact wpOp_step (toL ho) (fun K' hK => h K' (fun a w hS hW => hK a w ⟨hS, hW⟩))⟩
theorem wpAnyK_two {i j : Nat} {o o' : Oper} {fuel : Nat} {listed : Array Bool} {a : Act} {w : World} (ho : ops.toList[i]? = some o) (ho' : ops.toList[j]? = some o') (hr : Region.ready md ops listed = [i, j])
    (h : ∀ K' : Act → World → Prop, Shut (∀ a w, (ex.contains i = false → S w) → wpAnyK P md ops Q S ex fuel (listed.setIfInBounds i true) a w → K' a w) → if Region.wanted o (yielded ops a.tmps) = true then Oper.wp P o a w K' Q else K' (a.put o.dst undef) w)
    (h' : ∀ K' : Act → World → Prop, Shut (∀ a w, (ex.contains j = false → S w) → wpAnyK P md ops Q S ex fuel (listed.setIfInBounds j true) a w → K' a w) → if Region.wanted o' (yielded ops a.tmps) = true then Oper.wp P o' a w K' Q else K' (a.put o'.dst undef) w) :
    wpAnyK P md ops Q S ex (fuel + 1) listed a w :=
  ⟨fun h0 => absurd (hr ▸ h0) (by simp), fun k hk => by
    rw [hr] at hk
    simp only [List.mem_cons, List.not_mem_nil, or_false] at hk
    rcases hk with rfl | rfl
    · exact wpOp_step (toL ho) (fun K' hK => h K' (fun a w hS hW => hK a w ⟨hS, hW⟩))
    · exact wpOp_step (toL ho') (fun K' hK => h' K' (fun a w hS hW => hK a w ⟨hS, hW⟩))⟩
theorem wpAnyK_done {listed : Array Bool} {a : Act} {w : World} (hr : Region.ready md ops listed = []) (h : Q .normal a w) :
    ∀ fuel, wpAnyK P md ops Q S ex fuel listed a w
  | 0 => ⟨hr, h⟩
  | _ + 1 => ⟨fun _ => h, by rw [hr]; simp⟩
theorem wp_region_K {id : Nat} {a : Act} {w : World} (ex : List Nat) (hm : P.follows .mixedOrders = true)
    (h : wpAnyK P .any ops Q S ex ops.size (Array.replicate ops.size false) a w.drew) : (Code.region id ops true).wp P Q a w :=
  wp_region_any hm (wpAny_of_K _ _ _ _ h)
end
end Go.Proofs.YteijannfbafdpaaGreatDoor

/- A region that draws its order: three or four numbers may come up. No program stands here. -/
set_option linter.unusedSimpArgs false
set_option linter.unusedVariables false
namespace Go.Proofs.YteijannfbafdpaaGreatDoor
open Go
section
variable {P : Program} {ops : Array Oper} {Q : Exit → Act → World → Prop} {md : Region.Mode} {S : World → Prop} {ex : List Nat}
theorem wpAnyK_three {i j k : Nat} {o o' o'' : Oper} {fuel : Nat} {listed : Array Bool} {a : Act} {w : World} (hr : Region.ready md ops listed = [i, j, k]) (ho : ops.toList[i]? = some o) (ho' : ops.toList[j]? = some o') (ho'' : ops.toList[k]? = some o'')
    (h : ∀ K' : Act → World → Prop, Shut (∀ a w, (ex.contains i = false → S w) → wpAnyK P md ops Q S ex fuel (listed.setIfInBounds i true) a w → K' a w) → if Region.wanted o (yielded ops a.tmps) = true then Oper.wp P o a w K' Q else K' (a.put o.dst undef) w)
    (h' : ∀ K' : Act → World → Prop, Shut (∀ a w, (ex.contains j = false → S w) → wpAnyK P md ops Q S ex fuel (listed.setIfInBounds j true) a w → K' a w) → if Region.wanted o' (yielded ops a.tmps) = true then Oper.wp P o' a w K' Q else K' (a.put o'.dst undef) w)
    (h'' : ∀ K' : Act → World → Prop, Shut (∀ a w, (ex.contains k = false → S w) → wpAnyK P md ops Q S ex fuel (listed.setIfInBounds k true) a w → K' a w) → if Region.wanted o'' (yielded ops a.tmps) = true then Oper.wp P o'' a w K' Q else K' (a.put o''.dst undef) w) :
    wpAnyK P md ops Q S ex (fuel + 1) listed a w :=
  ⟨fun h0 => absurd (hr ▸ h0) (by simp), fun l hl => by
    rw [hr] at hl
    simp only [List.mem_cons, List.not_mem_nil, or_false] at hl
    rcases hl with rfl | rfl | rfl
    · exact wpOp_step (toL ho) (fun K' hK => h K' (fun a w hS hW => hK a w ⟨hS, hW⟩))
    · exact wpOp_step (toL ho') (fun K' hK => h' K' (fun a w hS hW => hK a w ⟨hS, hW⟩))
    · exact wpOp_step (toL ho'') (fun K' hK => h'' K' (fun a w hS hW => hK a w ⟨hS, hW⟩))⟩
end
end Go.Proofs.YteijannfbafdpaaGreatDoor
