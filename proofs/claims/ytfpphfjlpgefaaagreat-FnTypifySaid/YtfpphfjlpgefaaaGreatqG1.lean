/- Lemmas. -/
import Derived.Test.YtfpphfjlpgefaaaGreatqA
import Derived.WalkKit
import Derived.Deep.RegionHeld3
set_option linter.unusedSimpArgs false
set_option linter.unusedVariables false
namespace Go.Proofs.YtfpphfjlpgefaaaGreat
section

theorem qJZ {n m : Int} : (n.tmod m + m) % m = n % m := by
 rw [Int.add_emod_right, Int.tmod_def]
 have := Int.sub_mul_emod_self_left n m (n.tdiv m)
 grind

theorem qEE (a m : Int) (k : Nat) : (a % m) ^ k % m = a ^ k % m := by
 induction k with
 | zero => simp [Int.pow_zero]
 | succ k ih => rw [Int.pow_succ, Int.pow_succ, Int.mul_emod, ih, Int.emod_emod_of_dvd _ (Int.dvd_refl m), ← Int.mul_emod]

theorem qN1 {a b m : Int} (ha : 0 ≤ a) (hb : 0 ≤ b) (ha' : a < m) (hb' : b < m) : a * b ≤ (m - 1) * (m - 1) := Int.mul_le_mul Oo Oo hb Oo

theorem qCY {a b m : Int} (ha : 0 ≤ a) (hb : 0 ≤ b) (ha' : a < m) (hb' : b < m) (hm : m ≤ 3000000000) : 0 ≤ a * b ∧ a * b ≤ 9000000000000000000 := by
 have h := qN1 ha hb ha' hb'
 have h2 : (m - 1) * (m - 1) ≤ 2999999999 * 2999999999 := Int.mul_le_mul Oo Oo Oo Oo
 exact ⟨Int.mul_nonneg ha hb, Oo⟩

theorem qA6 {a m : Int} (hm : 0 < m) : 0 ≤ a % m ∧ a % m < m := ⟨Int.emod_nonneg _ Oo, Int.emod_lt_of_pos _ hm⟩

theorem qJu {out a m : Int} {k : Nat} (h : k % 2 = 1) : (out * a % m) * (a * a % m) ^ (k / 2) % m = out * a ^ k % m := by
 have e : a ^ k = a * (a * a) ^ (k / 2) := by
  have hk : k = 2 * (k / 2) + 1 := Oo
  conv => lhs; rw [hk]
  rw [Int.pow_succ, Int.pow_mul, Int.mul_comm]
  congr 1
  rw [show a ^ 2 = a * a from by rw [Int.pow_succ, Int.pow_succ, Int.pow_zero, Int.one_mul]]
 rw [e, Int.mul_emod, qEE, Int.emod_emod_of_dvd _ (Int.dvd_refl m), ← Int.mul_emod, Int.mul_assoc]
theorem qKg {out a m : Int} {k : Nat} (h : k % 2 = 0) : out * (a * a % m) ^ (k / 2) % m = out * a ^ k % m := by
 have e : a ^ k = (a * a) ^ (k / 2) := by
  have hk : k = 2 * (k / 2) := Oo
  conv => lhs; rw [hk]
  rw [Int.pow_mul]; rw [show a ^ 2 = a * a from by rw [Int.pow_succ, Int.pow_succ, Int.pow_zero, Int.one_mul]]
 rw [e, Int.mul_emod, qEE, ← Int.mul_emod]
end
section

def qA3 : Nat → (Nat → Int) → Int
 | 0, _ => 0
 | n + 1, f => qA3 n f + f n
theorem qC8 {n : Nat} {f g : Nat → Int} (h : ∀ i, i < n → f i = g i) : qA3 n f = qA3 n g := by
 induction n with
 | zero => rfl
 | succ n ih => simp only [qA3]; rw [ih (fun i hi => h i Oo), h n Oo]
theorem qLh (n : Nat) (f g : Nat → Int) : qA3 n (fun i => f i + g i) = qA3 n f + qA3 n g := by
 induction n with
 | zero => rfl
 | succ n ih => simp only [qA3]; rw [ih]; omega
theorem qGT (n : Nat) (f : Nat → Int) (c : Int) : qA3 n (fun i => c * f i) = c * qA3 n f := by
 induction n with
 | zero => simp [qA3]
 | succ n ih => simp only [qA3]; rw [ih, Int.mul_add]
theorem qCI {n : Nat} {f g : Nat → Int} {m : Int} (h : ∀ i, i < n → f i % m = g i % m) : qA3 n f % m = qA3 n g % m := by
 induction n with
 | zero => rfl
 | succ n ih => simp only [qA3]; rw [Int.add_emod, ih (fun i hi => h i Oo), h n Oo, ← Int.add_emod]

inductive Pol : ((Nat → Int) → Int) → Prop
 | var (i : Nat) : Pol (fun r => r i)
 | const (c : Int) : Pol (fun _ => c)
 | add {f g : (Nat → Int) → Int} : Pol f → Pol g → Pol (fun r => f r + g r)
 | mul {f g : (Nat → Int) → Int} : Pol f → Pol g → Pol (fun r => f r * g r)

theorem Pol.pow {f : (Nat → Int) → Int} (h : Pol f) (k : Nat) : Pol (fun r => f r ^ k) := by
 induction k with
 | zero => simp only [Int.pow_zero]; exact Pol.const 1
 | succ k ih => simp only [Int.pow_succ]; exact Pol.mul ih h
theorem Pol.neg {f : (Nat → Int) → Int} (h : Pol f) : Pol (fun r => - f r) := by
 have : Pol (fun r => (-1) * f r) := .mul (.const (-1)) h
 have e : (fun r => - f r) = fun r => (-1) * f r := by funext r; omega
 rw [e]; exact this
theorem Pol.sub {f g : (Nat → Int) → Int} (h : Pol f) (k : Pol g) : Pol (fun r => f r - g r) := (Pol.add h k.neg : Pol (fun r => f r + - g r))
theorem Pol.sum {F : Nat → (Nat → Int) → Int} (h : ∀ i, Pol (F i)) (n : Nat) : Pol (fun r => qA3 n (fun i => F i r)) := by
 induction n with
 | zero => exact Pol.const 0
 | succ n ih => exact Pol.add ih (h n)

def fr (p : Nat) (f : (Nat → Int) → Int) : (Nat → Int) → Int := fun r => f (fun i => r i ^ p)
theorem Pol.fr {p : Nat} {f : (Nat → Int) → Int} (h : Pol f) : Pol (fr p f) := by
 induction h with
 | var i => exact (Pol.var i).pow p
 | const c => exact Pol.const c
 | add _ _ ih1 ih2 => exact Pol.add ih1 ih2
 | mul _ _ ih1 ih2 => exact Pol.mul ih1 ih2

theorem Pol.congr {f : (Nat → Int) → Int} (h : Pol f) {m : Int} {r s : Nat → Int} (hrs : ∀ i, r i % m = s i % m) : f r % m = f s % m := by
 induction h with
 | var i => exact hrs i
 | const c => rfl
 | add _ _ ih1 ih2 => simp only []; rw [Int.add_emod, ih1, ih2, ← Int.add_emod]
 | mul _ _ ih1 ih2 => simp only []; rw [Int.mul_emod, ih1, ih2, ← Int.mul_emod]

def P4 (p : Nat) : Prop := p = 2 ∨ p = 3 ∨ p = 5 ∨ p = 7

theorem qGy {p : Nat} (hp : P4 p) (c : Int) : ∃ h : Int, c ^ p = c + p * h := by
 have key : (c ^ p - c) % (p : Int) = 0 := by
  have h1 : c ^ p % (p : Int) = (c % (p : Int)) ^ p % (p : Int) := (qEE c p p).symm
  have h2 : 0 ≤ c % (p : Int) := Int.emod_nonneg _ (by rcases hp with rfl | rfl | rfl | rfl <;> decide)
  have h3 : c % (p : Int) < p := Int.emod_lt_of_pos _ (by rcases hp with rfl | rfl | rfl | rfl <;> decide)
  rw [Int.sub_emod, h1]; generalize c % (p : Int) = d at h2 h3; rcases hp with rfl | rfl | rfl | rfl
  ·have : d = 0 ∨ d = 1 := Oo
   rcases this with rfl | rfl <;> decide
  ·have : d = 0 ∨ d = 1 ∨ d = 2 := Oo
   rcases this with rfl | rfl | rfl <;> decide
  ·have : d = 0 ∨ d = 1 ∨ d = 2 ∨ d = 3 ∨ d = 4 := Oo
   rcases this with rfl | rfl | rfl | rfl | rfl <;> decide
  ·have : d = 0 ∨ d = 1 ∨ d = 2 ∨ d = 3 ∨ d = 4 ∨ d = 5 ∨ d = 6 := Oo
   rcases this with rfl | rfl | rfl | rfl | rfl | rfl | rfl <;> decide
 obtain ⟨h, hh⟩ := Int.dvd_of_emod_eq_zero key
 exact ⟨h, Oo⟩

structure Gs (p : Nat) (F : Nat → (Nat → Int) → Int) : Prop where
 pol : ∀ k, Pol (F k)
 step : ∀ k, ∃ d, Pol d ∧ ∀ r, F (k + 1) r = fr p (F k) r + (p : Int) ^ (k + 1) * d r

theorem Gs.const (p : Nat) (c : Int) : Gs p (fun _ _ => c) := ⟨fun _ => Pol.const c, fun k => ⟨_, Pol.const 0, fun r => by simp [fr]⟩⟩
theorem Gs.add {p : Nat} {F G : Nat → (Nat → Int) → Int} (h : Gs p F) (k : Gs p G) : Gs p (fun j r => F j r + G j r) :=
 ⟨fun j => (h.pol j).add (k.pol j), fun j => by
  obtain ⟨d, hd, e⟩ := h.step j; obtain ⟨d', hd', e'⟩ := k.step j; exact ⟨_, hd.add hd', fun r => by show F (j+1) r + G (j+1) r = (fr p (F j) r + fr p (G j) r) + _; rw [e r, e' r]; grind⟩⟩
theorem Gs.mul {p : Nat} {F G : Nat → (Nat → Int) → Int} (h : Gs p F) (k : Gs p G) : Gs p (fun j r => F j r * G j r) :=
 ⟨fun j => (h.pol j).mul (k.pol j), fun j => by
  obtain ⟨d, hd, e⟩ := h.step j; obtain ⟨d', hd', e'⟩ := k.step j
  exact ⟨_, (((h.pol j).fr (p := p)).mul hd').add ((hd.mul ((k.pol j).fr (p := p))).add ((Pol.const ((p : Int) ^ (j + 1))).mul (hd.mul hd'))), fun r => by
   show F (j+1) r * G (j+1) r = (fr p (F j) r * fr p (G j) r) + _
   rw [e r, e' r]; grind⟩⟩
theorem Gs.neg {p : Nat} {F : Nat → (Nat → Int) → Int} (h : Gs p F) : Gs p (fun j r => - F j r) := by
 have := (Gs.const p (-1)).mul h
 have e : (fun (j : Nat) r => - F j r) = fun j r => (-1) * F j r := by funext j r; omega
 rw [e]; exact this
end
section

def at0 (xs : Li) (i : Nat) : Int := xs.getD i 0
theorem qDT {xs : Li} {i : Nat} (h : i < xs.length) : at0 xs i = xs[i] := by simp [at0, List.getD, h]
end
section

def mk (n : Nat) (f : Nat → Int) : Li := (List.range n).map f
theorem qA8 (n : Nat) (f : Nat → Int) : (mk n f).length = n := by simp [mk]
theorem qAy {n : Nat} {f : Nat → Int} {k : Nat} (h : k < n) : (mk n f)[k]? = some (f k) := by simp [mk, h]
theorem qBN {n : Nat} {f : Nat → Int} {k : Nat} (h : k < n) : at0 (mk n f) k = f k := by simp [at0, List.getD, qAy h]
theorem qKN {n : Nat} {f : Nat → Int} {k : Nat} (h : n ≤ k) : at0 (mk n f) k = 0 := by simp [at0, List.getD, mk, h]
theorem qAh {n : Nat} {f g : Nat → Int} (h : ∀ k, k < n → f k = g k) : mk n f = mk n g := by
 unfold mk; exact List.map_congr_left (fun k hk => h k (List.mem_range.1 hk))
theorem qDu {n : Nat} {f : Nat → Int} {k : Nat} {x : Int} : (mk n f).set k x = mk n (fun j => if j = k then x else f j) := by
 apply List.ext_getElem?
 intro j
 simp only [List.getElem?_set, mk, List.length_map, List.length_range, List.getElem?_map]
 by_cases h : k = j
 ·subst h
  by_cases hk : k < n <;> simp [hk]
 ·have h' : ¬ j = k := fun e => h e.symm
  by_cases hk : j < n <;> simp [h, h', hk]
theorem qCN (n : Nat) (f : Nat → Int) : mk (n + 1) f = mk n f ++ [f n] := by simp [mk, List.range_succ]
theorem qFv (xs : Li) : xs = mk xs.length (at0 xs) := by
 apply List.ext_getElem?
 intro j
 by_cases h : j < xs.length
 ·rw [qAy h, qDT h]; simp [h]
 ·rw [List.getElem?_eq_none Oo, List.getElem?_eq_none (by rw [qA8]; omega)]
theorem qCq {xs : Li} {k : Nat} (h : xs.length ≤ k) : at0 xs k = 0 := by simp [at0, List.getD, h]
theorem qA5 {xs : Li} {k : Nat} (h : k < xs.length) : xs[k]? = some (at0 xs k) := by rw [qDT h]; simp [h]
theorem qDD (n : Nat) : List.replicate n (0 : Int) = mk n (fun _ => 0) := by
 apply List.ext_getElem?
 intro j
 by_cases h : j < n
 ·rw [qAy h]; simp [h]
 ·rw [List.getElem?_eq_none (by simp; omega), List.getElem?_eq_none (by rw [qA8]; omega)]
theorem qGr {n : Nat} {f : Nat → Int} {x : Int} (h : x ∈ mk n f) : ∃ k, k < n ∧ x = f k := by
 unfold mk at h
 obtain ⟨k, hk, rfl⟩ := List.mem_map.1 h
 exact ⟨k, List.mem_range.1 hk, rfl⟩

def conv (a b : Nat → Int) (k : Nat) : Int := qA3 (k + 1) (fun i => a i * b (k - i))
def qB1 (a b : Nat → Int) (i j k : Nat) : Int := qA3 (min i (k + 1)) (fun i' => a i' * b (k - i')) + if i ≤ k ∧ k < i + j then a i * b (k - i) else 0

theorem qMu (a b : Nat → Int) (k : Nat) : qB1 a b 0 0 k = 0 := by simp [qB1, qA3]
theorem qQe (a b : Nat → Int) (i j k : Nat) : qB1 a b i (j + 1) k = qB1 a b i j k + if k = i + j then a i * b j else 0 := by
 unfold qB1
 by_cases h : k = i + j
 ·subst h; rw [if_pos ⟨Oo, Oo⟩, if_neg Oo, if_pos rfl, show i + j - i = j by omega]; omega
 ·rw [if_neg h]
  by_cases h1 : i ≤ k ∧ k < i + j
  ·rw [if_pos h1, if_pos ⟨h1.1, Oo⟩]; omega
  ·rw [if_neg h1, if_neg Oo]; omega
theorem qPX (a b : Nat → Int) (i j k : Nat) (h : i + j ≤ k → a i * b (k - i) = 0) : qB1 a b i j k = qB1 a b (i + 1) 0 k := by
 unfold qB1
 rw [if_neg (show ¬ (i + 1 ≤ k ∧ k < i + 1 + 0) by omega)]
 by_cases h1 : i ≤ k
 ·rw [show min (i + 1) (k + 1) = i + 1 by omega, show min i (k + 1) = i by omega]; simp only [qA3]
  by_cases h2 : k < i + j
  ·rw [if_pos ⟨h1, h2⟩]; omega
  ·rw [if_neg Oo, h Oo]; omega
 ·rw [if_neg Oo, show min i (k + 1) = k + 1 by omega, show min (i + 1) (k + 1) = k + 1 by omega]
theorem qBG {n : Nat} {f : Nat → Int} (h : ∀ i, i < n → f i = 0) : qA3 n f = 0 := by
 induction n with
 | zero => rfl
 | succ n ih => simp only [qA3]; rw [ih (fun i hi => h i Oo), h n Oo]; rfl
theorem qIF (n k : Nat) (f : Nat → Int) : qA3 (n + k) f = qA3 n f + qA3 k (fun i => f (n + i)) := by
 induction k with
 | zero => simp [qA3]
 | succ k ih => rw [show n + (k + 1) = n + k + 1 by omega]; simp only [qA3]; rw [ih]; omega
theorem qPS (a b : Nat → Int) (i k : Nat) (h : ∀ i', i ≤ i' → i' ≤ k → a i' = 0) : qB1 a b i 0 k = conv a b k := by
 unfold qB1 conv
 rw [if_neg Oo]
 by_cases h1 : k + 1 ≤ i
 ·rw [show min i (k + 1) = k + 1 by omega]; omega
 ·rw [show min i (k + 1) = i by omega]; obtain ⟨d, hd⟩ : ∃ d, k + 1 = i + d := ⟨k + 1 - i, Oo⟩; rw [hd, qIF, qBG (n := d) (f := fun j => a (i + j) * b (k - (i + j))) (fun j hj => by rw [h (i + j) Oo Oo]; simp)]

def tmS (m : Int) (n : Nat) (a b : Li) (i j : Nat) : Li := mk n (fun k => qB1 (at0 a) (at0 b) i j k % m)
def qAZ (m : Int) (n : Nat) (a b : Li) : Li := mk n (fun k => conv (at0 a) (at0 b) k % m)
theorem qQq (m : Int) (n : Nat) (a b : Li) (i j : Nat) : (tmS m n a b i j).length = n := qA8 _ _
theorem qBX (m : Int) (n : Nat) (a b : Li) : (qAZ m n a b).length = n := qA8 _ _
theorem tmS_0 (m : Int) (n : Nat) (a b : Li) : List.replicate n (0 : Int) = tmS m n a b 0 0 := by
 rw [qDD]; exact qAh (fun k _ => by rw [qMu]; simp)
theorem qPH {m : Int} {n : Nat} {a b : Li} {i j : Nat} {x y : Int} (hx : at0 a i = x) (hy : at0 b j = y) :
  (tmS m n a b i j).set (i + j) ((qB1 (at0 a) (at0 b) i j (i + j) % m + x * y % m) % m) = tmS m n a b i (j + 1) := by
 subst hx hy
 unfold tmS
 rw [qDu]
 refine qAh fun k hk => ?_
 rw [qQe]
 by_cases h : k = i + j
 ·subst h; simp only [if_true]; rw [← Int.add_emod]
 ·rw [if_neg h, if_neg h, Int.add_zero]
theorem qLJ {m : Int} {n : Nat} {a b : Li} {i j : Nat} {x y : Int} (hx : at0 a i = x) (hy : at0 b j = y) :
  (tmS m n a b i j).set (i + j) ((qB1 (at0 a) (at0 b) i j (i + j) + x * y) % m) = tmS m n a b i (j + 1) := by
 rw [← qPH hx hy, ← Int.add_emod]
theorem qL8 {m : Int} {n : Nat} {a b : Li} {i j : Nat} (h : n ≤ i + j ∨ b.length ≤ j ∨ at0 a i = 0) : tmS m n a b i j = tmS m n a b (i + 1) 0 := by
 refine qAh fun k hk => ?_
 rw [qPX _ _ _ _ _ (fun hij => ?_)]
 rcases h with h | h | h
 ·omega
 ·rw [qCq (xs := b) Oo, Int.mul_zero]
 ·rw [h, Int.zero_mul]
theorem qLj {m : Int} {n : Nat} {a b : Li} {i : Nat} (h : n ≤ i ∨ a.length ≤ i) : tmS m n a b i 0 = qAZ m n a b := by
 refine qAh fun k hk => ?_
 rw [qPS _ _ _ _ (fun i' h1 h2 => ?_)]
 rcases h with h | h
 ·omega
 ·exact qCq Oo
theorem qDi {m : Int} (hm : 0 < m) {n : Nat} {a b : Li} : ∀ x ∈ qAZ m n a b, 0 ≤ x ∧ x < m := by
 intro x hx
 obtain ⟨k, _, rfl⟩ := qGr hx
 exact qA6 hm
theorem qI7 {xs : Li} {k : Nat} (h : k < xs.length) : at0 xs k ∈ xs := by rw [qDT h]; exact List.getElem_mem h
theorem qAG {xs : Li} {m : Int} (hm : 0 < m) (h : ∀ x ∈ xs, 0 ≤ x ∧ x < m) (k : Nat) : 0 ≤ at0 xs k ∧ at0 xs k < m := by
 by_cases hk : k < xs.length
 ·exact h _ (qI7 hk)
 ·rw [qCq Oo]; omega

def qCi (m : Int) (n : Nat) (a b : Li) : Li := mk n (fun k => (at0 a k + at0 b k) % m)
theorem qHa (m : Int) (n : Nat) (a b : Li) : (qCi m n a b).length = n := qA8 _ _
def qEJ (m : Int) (n : Nat) (a b : Li) (i : Nat) : Li := mk n (fun k => if k < i then (at0 a k + at0 b k) % m else 0)
theorem qNi (m : Int) (n : Nat) (a b : Li) (i : Nat) : (qEJ m n a b i).length = n := qA8 _ _
theorem qO0 (m : Int) (n : Nat) (a b : Li) : List.replicate n (0 : Int) = qEJ m n a b 0 := by
 rw [qDD]; exact qAh (fun k _ => by simp)
theorem qQf {m : Int} {n : Nat} {a b : Li} {i : Nat} {x y : Int} (hx : at0 a i = x) (hy : at0 b i = y) : (qEJ m n a b i).set i ((x + y) % m) = qEJ m n a b (i + 1) := by
 subst hx hy
 unfold qEJ
 rw [qDu]
 refine qAh fun k hk => ?_
 by_cases h : k = i
 ·subst h; simp
 ·rw [if_neg h]
  by_cases h1 : k < i
  ·rw [if_pos h1, if_pos Oo]
  ·rw [if_neg h1, if_neg Oo]
theorem qQo {m : Int} {n : Nat} {a b : Li} {i : Nat} (h : n ≤ i) : qEJ m n a b i = qCi m n a b := qAh fun k hk => by rw [if_pos Oo]
theorem qOl {m : Int} (hm : 0 < m) {n : Nat} {a b : Li} : ∀ x ∈ qCi m n a b, 0 ≤ x ∧ x < m := by
 intro x hx
 obtain ⟨k, _, rfl⟩ := qGr hx
 exact qA6 hm

def qBn (m c : Int) (a : Li) : Li := a.map (fun x => c * x % m)
theorem qG8 (m c : Int) (a : Li) : (qBn m c a).length = a.length := by simp [qBn]

def qCQ (m c : Int) (l : Li) : Li := l.set 0 ((at0 l 0 + c) % m)
theorem qOS (m c : Int) (l : Li) : (qCQ m c l).length = l.length := by simp [qCQ]
def qAH (m : Int) (n : Nat) (f : Li) : Li → Li
 | [] => List.replicate n 0
 | c :: cs => qCQ m c (qAZ m n (qAH m n f cs) f)
theorem qDo (m : Int) (n : Nat) (f cs : Li) : (qAH m n f cs).length = n := by
 cases cs with
 | nil => simp [qAH]
 | cons c cs => simp [qAH, qOS, qBX]
theorem qEy {m : Int} (hm : 0 < m) {n : Nat} {f cs : Li} : ∀ x ∈ qAH m n f cs, 0 ≤ x ∧ x < m := by
 cases cs with
 | nil => intro x hx; simp [qAH] at hx; omega
 | cons c cs =>
   intro x hx; simp only [qAH, qCQ] at hx; rcases List.mem_or_eq_of_mem_set hx with h | rfl
   ·exact qDi hm x h
   ·exact qA6 hm
theorem qJp {m : Int} {n : Nat} {f a : Li} {i : Nat} {x : Int} (h : a[i]? = some x) : qAH m n f (a.drop i) = qCQ m x (qAZ m n (qAH m n f (a.drop (i + 1))) f) := by
 obtain ⟨hl, rfl⟩ := List.getElem?_eq_some_iff.1 h
 rw [List.drop_eq_getElem_cons hl]; rfl
end
section

def tri (n : Nat) (f : Nat → Nat → Int) : Tb := (List.range n).map (fun i => mk (n - i) (f i))
theorem qA9 (n : Nat) (f : Nat → Nat → Int) : (tri n f).length = n := by simp [tri]
theorem qAp {n : Nat} {f : Nat → Nat → Int} {i : Nat} (h : i < n) : (tri n f)[i]? = some (mk (n - i) (f i)) := by simp [tri, h]
theorem qAE {n : Nat} {f g : Nat → Nat → Int} (h : ∀ i j, i + j < n → f i j = g i j) : tri n f = tri n g := by
 unfold tri
 refine List.map_congr_left fun i hi => qAh fun j hj => h i j (by have := List.mem_range.1 hi; omega)
theorem qBp {n : Nat} {f : Nat → Nat → Int} {i j : Nat} {x : Int} (h : i + j < n) : (tri n f).set i ((mk (n - i) (f i)).set j x) = tri n (fun a b => if a = i ∧ b = j then x else f a b) := by
 apply List.ext_getElem?
 intro a
 rw [List.getElem?_set]
 by_cases e : i = a
 ·subst e; rw [if_pos rfl, qA9, if_pos Oo, qAp Oo, qDu]
  congr 1
  exact qAh fun b hb => by by_cases e : b = j <;> simp [e]
 ·rw [if_neg e]
  by_cases ha : a < n
  ·rw [qAp ha, qAp ha]
   congr 1
   exact qAh fun b hb => by rw [if_neg (fun h => e h.1.symm)]
  ·rw [List.getElem?_eq_none (by rw [qA9]; omega), List.getElem?_eq_none (by rw [qA9]; omega)]
def atT (t : Tb) (i j : Nat) : Int := at0 (t.getD i []) j
theorem qAi {n : Nat} {f : Nat → Nat → Int} {i j : Nat} (h : i + j < n) : atT (tri n f) i j = f i j := by
 unfold atT List.getD
 rw [qAp Oo]
 exact qBN Oo
theorem qDI {t : Tb} {i j : Nat} (h : i < t.length) : atT t i j = at0 t[i] j := by simp [atT, List.getD, h]
theorem qEm {t : Tb} {n : Nat} (hl : t.length = n) (hr : ∀ i (hi : i < t.length), t[i].length = n - i) : t = tri n (atT t) := by
 subst hl
 apply List.ext_getElem?
 intro i
 by_cases hi : i < t.length
 ·rw [qAp hi]; rw [List.getElem?_eq_getElem hi]
  congr 1
  rw [← hr i hi]
  conv => lhs; rw [qFv t[i]]
  exact qAh fun j _ => (qDI hi).symm
 ·rw [List.getElem?_eq_none Oo, List.getElem?_eq_none (by rw [qA9]; omega)]
theorem qGe (n k : Nat) (f : Nat → Nat → Int) : (List.range (k + 1)).map (fun i => mk (n - i) (f i)) = (List.range k).map (fun i => mk (n - i) (f i)) ++ [mk (n - k) (f k)] := by
 rw [List.range_succ, List.map_append]; rfl
def qD0 (n k : Nat) : Tb := (List.range k).map (fun i => List.replicate (n - i) 0)
theorem qLq (n k : Nat) : (qD0 n k).length = k := by simp [qD0]
theorem qJI (n k : Nat) : qD0 n (k + 1) = qD0 n k ++ [List.replicate (n - k) 0] := by simp [qD0, List.range_succ]
def qAb (n : Nat) : Tb := tri n (fun _ _ => 0)
theorem qKa (n : Nat) : qD0 n n = qAb n := by
 unfold qD0 qAb tri
 exact List.map_congr_left fun i _ => qDD _
theorem qBm (n : Nat) : (qAb n).length = n := qA9 _ _
def qAr (m : Int) (n : Nat) (a b : Tb) : Tb := tri n (fun i j => (atT a i j + atT b i j) % m)
end
section

theorem qE1 {n : Nat} {f g : Nat → Int} (h : ∀ i, i < n → f i = g i) : qA3 n f = qA3 n g := qC8 h
theorem qDe {n k : Nat} {f : Nat → Int} (hk : k ≤ n) (h : ∀ i, k ≤ i → i < n → f i = 0) : qA3 n f = qA3 k f := by
 obtain ⟨d, rfl⟩ : ∃ d, n = k + d := ⟨n - k, Oo⟩
 rw [qIF, qBG (n := d) (f := fun i => f (k + i)) (fun i hi => h (k + i) Oo Oo)]; omega

def qBF (a b : Nat → Nat → Int) (p q : Nat) : Int := qA3 (p + 1) (fun i => qA3 (q + 1) (fun j => a i j * b (p - i) (q - j)))
def c2F (a b : Nat → Nat → Int) (p q i j : Nat) : Int := if i ≤ p ∧ j ≤ q then a i j * b (p - i) (q - j) else 0
def c2P (n : Nat) (a b : Nat → Nat → Int) (i j k l p q : Nat) : Int :=
 qA3 i (fun i' => qA3 n (c2F a b p q i')) + qA3 j (c2F a b p q i) + if (i ≤ p ∧ j ≤ q) ∧ (p - i < k ∨ (p - i = k ∧ q - j < l)) then a i j * b (p - i) (q - j) else 0

theorem c2P_0 (n : Nat) (a b : Nat → Nat → Int) (p q : Nat) : c2P n a b 0 0 0 0 p q = 0 := by
 unfold c2P; simp [qA3]
theorem qM8 (n : Nat) (a b : Nat → Nat → Int) (i j k l p q : Nat) : c2P n a b i j k (l + 1) p q = c2P n a b i j k l p q + if p = i + k ∧ q = j + l then a i j * b k l else 0 := by
 unfold c2P
 by_cases h : p = i + k ∧ q = j + l
 ·obtain ⟨rfl, rfl⟩ := h; rw [if_pos Oo, if_neg Oo, if_pos ⟨rfl, rfl⟩, show i + k - i = k by omega, show j + l - j = l by omega]; omega
 ·rw [if_neg h]
  by_cases h1 : (i ≤ p ∧ j ≤ q) ∧ (p - i < k ∨ (p - i = k ∧ q - j < l))
  ·rw [if_pos h1, if_pos Oo]; omega
  ·rw [if_neg h1, if_neg Oo]; omega
theorem qMX {n : Nat} (a b : Nat → Nat → Int) {i j k l p q : Nat} (hn : n ≤ i + j + k + l) (h : p + q < n) : c2P n a b i j k l p q = c2P n a b i j (k + 1) 0 p q := by
 unfold c2P
 congr 1
 by_cases h1 : (i ≤ p ∧ j ≤ q) ∧ (p - i < k ∨ (p - i = k ∧ q - j < l))
 ·rw [if_pos h1, if_pos Oo]
 ·rw [if_neg h1, if_neg Oo]
theorem qO2 {n : Nat} (a b : Nat → Nat → Int) {i j k p q : Nat} (hn : n ≤ i + j + k ∨ a i j = 0) (h : p + q < n) : c2P n a b i j k 0 p q = c2P n a b i (j + 1) 0 0 p q := by
 unfold c2P
 rw [if_neg (show ¬ ((i ≤ p ∧ j + 1 ≤ q) ∧ (p - i < 0 ∨ (p - i = 0 ∧ q - (j + 1) < 0))) by omega)]
 simp only [qA3]
 have : (if (i ≤ p ∧ j ≤ q) ∧ (p - i < k ∨ (p - i = k ∧ q - j < 0)) then a i j * b (p - i) (q - j) else 0) = c2F a b p q i j := by
  unfold c2F
  by_cases h0 : a i j = 0
  ·rw [h0]; simp
  ·have hn' : n ≤ i + j + k := by rcases hn with h | h; exact h; exact absurd h h0
   by_cases h1 : i ≤ p ∧ j ≤ q
   ·rw [if_pos Oo, if_pos h1]
   ·rw [if_neg Oo, if_neg h1]
 rw [this]; omega
theorem qP5 {n : Nat} (a b : Nat → Nat → Int) {i p q : Nat} (h : p + q < n) {j : Nat} (hj : j = n - i) : c2P n a b i j 0 0 p q = c2P n a b (i + 1) 0 0 0 p q := by
 subst hj
 unfold c2P
 rw [if_neg Oo, if_neg Oo]
 simp only [qA3]
 rw [qDe (n := n) (k := n - i) (f := c2F a b p q i) Oo (fun j h1 h2 => by unfold c2F; rw [if_neg Oo])]
 omega
theorem qMU {n : Nat} (a b : Nat → Nat → Int) {p q : Nat} (h : p + q < n) : c2P n a b n 0 0 0 p q = qBF a b p q := by
 unfold c2P qBF
 rw [if_neg Oo, show qA3 0 (c2F a b p q n) = 0 from rfl]
 rw [qDe (n := n) (k := p + 1) Oo (fun i h1 h2 => qBG (fun j hj => by unfold c2F; rw [if_neg Oo]))]
 rw [qE1 (n := p + 1) (g := fun i => qA3 (q + 1) (fun j => a i j * b (p - i) (q - j))) (fun i hi => by
  rw [qDe (n := n) (k := q + 1) Oo (fun j h1 h2 => by unfold c2F; rw [if_neg Oo])]; exact qE1 (fun j hj => by unfold c2F; rw [if_pos Oo]))]
 omega

def tmT (m : Int) (n : Nat) (a b : Tb) (i j k l : Nat) : Tb := tri n (fun p q => c2P n (atT a) (atT b) i j k l p q % m)
def qAO (m : Int) (n : Nat) (a b : Tb) : Tb := tri n (fun p q => qBF (atT a) (atT b) p q % m)
theorem qEM (m : Int) (n : Nat) (a b : Tb) : (qAO m n a b).length = n := qA9 _ _
theorem tmT_0 (m : Int) (n : Nat) (a b : Tb) : qAb n = tmT m n a b 0 0 0 0 := qAE fun p q _ => by rw [c2P_0]; simp
def tmTr (m : Int) (n : Nat) (a b : Tb) (i j k l r : Nat) : Li := mk (n - r) (fun q => c2P n (atT a) (atT b) i j k l r q % m)
theorem qFs (m : Int) (n : Nat) (a b : Tb) (i j k l r : Nat) : (tmTr m n a b i j k l r).length = n - r := qA8 _ _
theorem qI_ {m : Int} {n : Nat} {a b : Tb} {i j k l r : Nat} (h : r < n) : (tmT m n a b i j k l)[r]? = some (tmTr m n a b i j k l r) := qAp h
theorem qJT {m : Int} {n : Nat} {a b : Tb} {i j k l r q : Nat} (h : r + q < n) : (tmTr m n a b i j k l r)[q]? = some (c2P n (atT a) (atT b) i j k l r q % m) := qAy Oo
theorem qIl {m : Int} {n : Nat} {a b : Tb} {i j k l : Nat} (h : i + j + k + l < n) :
  (tmT m n a b i j k l).set (i + k) ((tmTr m n a b i j k l (i + k)).set (j + l) ((c2P n (atT a) (atT b) i j k l (i + k) (j + l) + atT a i j * atT b k l) % m)) = tmT m n a b i j k (l + 1) := by
 unfold tmT tmTr
 rw [qBp (f := fun p q => c2P n (atT a) (atT b) i j k l p q % m) Oo]
 refine qAE fun p q _ => ?_
 rw [qM8]
 by_cases h1 : p = i + k ∧ q = j + l
 ·rw [if_pos h1, if_pos h1]; obtain ⟨rfl, rfl⟩ := h1; rfl
 ·rw [if_neg h1, if_neg h1, Int.add_zero]
theorem qKP {m : Int} {n : Nat} {a b : Tb} {i j k l : Nat} (hn : n ≤ i + j + k + l) : tmT m n a b i j k l = tmT m n a b i j (k + 1) 0 := qAE fun p q h => by rw [qMX _ _ hn h]
theorem qGc {m : Int} {n : Nat} {a b : Tb} {i j k : Nat} (hn : n ≤ i + j + k ∨ atT a i j = 0) : tmT m n a b i j k 0 = tmT m n a b i (j + 1) 0 0 := qAE fun p q h => by rw [qO2 _ _ hn h]
theorem qKs {m : Int} {n : Nat} {a b : Tb} {i j : Nat} (hj : j = n - i) : tmT m n a b i j 0 0 = tmT m n a b (i + 1) 0 0 0 := qAE fun p q h => by rw [qP5 _ _ h hj]
theorem qIu {m : Int} {n : Nat} {a b : Tb} : tmT m n a b n 0 0 0 = qAO m n a b := qAE fun p q h => by rw [qMU _ _ h]
def PlaT (m : Int) (n : Nat) (t : Tb) : Prop := t.length = n ∧ ∀ i (hi : i < t.length), t[i].length = t.length - i ∧ ∀ x ∈ t[i], 0 ≤ x ∧ x < m
theorem qB2 {m : Int} {n : Nat} {f : Nat → Nat → Int} (h : ∀ i j, i + j < n → 0 ≤ f i j ∧ f i j < m) : PlaT m n (tri n f) := by
 refine ⟨qA9 _ _, fun i hi => ?_⟩
 rw [qA9] at hi
 have e : (tri n f)[i]'(by rw [qA9]; exact hi) = mk (n - i) (f i) := by
  have := qAp (f := f) hi; rw [List.getElem?_eq_getElem (by rw [qA9]; exact hi)] at this; exact Option.some.inj this
 rw [e, qA8, qA9]
 refine ⟨rfl, fun x hx => ?_⟩
 obtain ⟨k, hk, rfl⟩ := qGr hx
 exact h i k Oo
theorem qFH {m : Int} (hm : 0 < m) (n : Nat) : PlaT m n (qAb n) := qB2 fun i j _ => Oo
theorem qAU {m : Int} (hm : 0 < m) (n : Nat) (a b : Tb) : PlaT m n (qAO m n a b) := qB2 fun _ _ _ => qA6 hm
theorem qAX {m : Int} (hm : 0 < m) (n : Nat) (a b : Tb) : PlaT m n (qAr m n a b) := qB2 fun _ _ _ => qA6 hm
end
section

theorem qCU {a a' b b' m : Int} (h : a % m = a' % m) (k : b % m = b' % m) : (a + b) % m = (a' + b') % m := by rw [Int.add_emod, h, k, ← Int.add_emod]
theorem qAd {a a' b b' m : Int} (h : a % m = a' % m) (k : b % m = b' % m) : (a * b) % m = (a' * b') % m := by rw [Int.mul_emod, h, k, ← Int.mul_emod]
theorem qEs {a a' b b' m : Int} (h : a % m = a' % m) (k : b % m = b' % m) : (a - b) % m = (a' - b') % m := by rw [Int.sub_emod, h, k, ← Int.sub_emod]
theorem qCX (a m : Int) : a % m % m = a % m := Int.emod_emod_of_dvd _ (Int.dvd_refl m)
theorem qOv {m : Int} (hm : 2 ≤ m) : (1 : Int) % m = 1 := Int.emod_eq_of_lt Oo Oo

def qAA (m : Int) (n : Nat) (a : Li) : Nat → Li
 | 0 => (List.replicate n 0).set 0 (1 % m)
 | k + 1 => qAZ m n (qAA m n a k) a
theorem qBU (m : Int) (n : Nat) (a : Li) (k : Nat) : (qAA m n a k).length = n := by
 cases k
 ·simp [qAA]
 ·exact qBX _ _ _ _
theorem qEx {m : Int} (hm : 0 < m) {n : Nat} {a : Li} {k : Nat} : ∀ x ∈ qAA m n a k, 0 ≤ x ∧ x < m := by
 cases k
 ·intro x hx; rcases List.mem_or_eq_of_mem_set hx with h | rfl
  ·simp at h; omega
  ·exact qA6 hm
 ·exact qDi hm
def qBg (m : Int) (n : Nat) (a : Li) (k : Nat) : Tb := (List.range k).map (qAA m n a)
theorem qC7 (m : Int) (n : Nat) (a : Li) (k : Nat) : (qBg m n a k).length = k := by simp [qBg]
theorem qF3 {m : Int} {n : Nat} {a : Li} {k i : Nat} (h : i < k) : (qBg m n a k)[i]? = some (qAA m n a i) := by simp [qBg, h]
theorem qJD (m : Int) (n : Nat) (a : Li) (k : Nat) : qBg m n a (k + 1) = qBg m n a k ++ [qAA m n a k] := by simp [qBg, List.range_succ]
theorem qPp {a b : Nat → Int} {e k : Nat} (ha : ∀ i, i < e → a i = 0) (hb : b 0 = 0) (h : k < e + 1) : conv a b k = 0 := by
 unfold conv
 refine qBG fun i hi => ?_
 by_cases h1 : i < e
 ·rw [ha i h1, Int.zero_mul]
 ·rw [show k - i = 0 by omega, hb, Int.mul_zero]
theorem qKj {m : Int} {n : Nat} {a : Li} (ha : at0 a 0 = 0) (k : Nat) : ∀ i, i < k → at0 (qAA m n a k) i = 0 := by
 induction k with
 | zero => intro i hi; omega
 | succ k ih =>
   intro i hi
   by_cases hn : i < n
   ·unfold qAA qAZ; rw [qBN hn, qPp ih ha hi]; simp
   ·exact qCq (by rw [qBU]; omega)

def putS (n : Nat) (t : Nat → Nat → Int) (P Q : Nat → Li) (i j k : Nat) : Int :=
 qA3 i (fun i' => qA3 (n - i') (fun j' => t i' j' * conv (at0 (P i')) (at0 (Q j')) k)) + qA3 j (fun j' => t i j' * conv (at0 (P i)) (at0 (Q j')) k)
theorem qIf {m c : Int} {a : Li} {k : Nat} (h : k < a.length) : at0 (qBn m c a) k = c * at0 a k % m := by
 unfold qBn at0 List.getD
 rw [List.getElem?_map, List.getElem?_eq_getElem h]; rfl
theorem qMS {m : Int} (hm : 0 < m) {c : Int} {a : Li} : ∀ x ∈ qBn m c a, 0 ≤ x ∧ x < m := by
 intro x hx
 unfold qBn at hx
 obtain ⟨y, _, rfl⟩ := List.mem_map.1 hx
 exact qA6 hm
def qBo (n : Nat) (t : Nat → Nat → Int) (P Q : Nat → Li) (i j p q : Nat) : Int :=
 qA3 i (fun i' => qA3 (n - i') (fun j' => t i' j' * (at0 (P i') p * at0 (Q j') q))) + qA3 j (fun j' => t i j' * (at0 (P i) p * at0 (Q j') q))
def qBt (m : Int) (n : Nat) (t : Nat → Nat → Int) (P Q : Nat → Li) (i j : Nat) : Tb := tri n (fun p q => qBo n t P Q i j p q % m)
theorem qH7 {m : Int} (hm : 0 < m) (n : Nat) (t : Nat → Nat → Int) (P Q : Nat → Li) (i j : Nat) : PlaT m n (qBt m n t P Q i j) := qB2 fun _ _ _ => qA6 hm
theorem qKv (m : Int) (n : Nat) (t : Nat → Nat → Int) (P Q : Nat → Li) : qAb n = qBt m n t P Q 0 0 := qAE fun p q _ => by simp [qBo, qA3]
theorem qFT (n : Nat) (t : Nat → Nat → Int) (P Q : Nat → Li) (i j p q : Nat) : qBo n t P Q i (j + 1) p q = qBo n t P Q i j p q + t i j * (at0 (P i) p * at0 (Q j) q) := by
 unfold qBo
 simp only [qA3]; omega
theorem qPb {m : Int} {n : Nat} {t : Nat → Nat → Int} {P Q : Nat → Li} {i j : Nat} (h : t i j = 0) : qBt m n t P Q i j = qBt m n t P Q i (j + 1) :=
 qAE fun p q _ => by rw [qFT, h, Int.zero_mul, Int.add_zero]
theorem qIb {m : Int} {n : Nat} {t : Nat → Nat → Int} {P Q : Nat → Li} {i j : Nat} (h : j = n - i) : qBt m n t P Q i j = qBt m n t P Q (i + 1) 0 := by
 subst h
 exact qAE fun p q _ => by unfold qBo; simp only [qA3, Int.add_zero]
def qBw (m : Int) (n : Nat) (t : Tb) (a b : Li) : Tb := qBt m n (atT t) (qAA m n a) (qAA m n b) n 0
def outT (m : Int) (n : Nat) (f : Tb) (a b : Li) : Tb := tri n (fun p q => (atT f p q + at0 a p * at0 b q) % m)
theorem qMr {m : Int} {n : Nat} {t : Nat → Nat → Int} {P Q : Nat → Li} {i j : Nat} (hP : (P i).length = n) :
  outT m n (qBt m n t P Q i j) (qBn m (t i j) (P i)) (Q j) = qBt m n t P Q i (j + 1) := by
 unfold outT
 refine qAE fun p q h => ?_
 unfold qBt
 rw [qAi h, qIf Oo, qFT]
 refine qCU (qCX _ _) ?_
 rw [← Int.mul_assoc]
 exact qAd (qCX _ _) rfl

def qAa (m : Int) (n : Nat) (t : Tb) : Nat → Tb
 | 0 => tri n (fun i j => if i = 0 ∧ j = 0 then 1 % m else 0)
 | k + 1 => qAO m n (qAa m n t k) t
theorem qFE (m : Int) (n : Nat) (t : Tb) (k : Nat) : (qAa m n t k).length = n := by
 cases k <;> exact qA9 _ _
theorem qHU {m : Int} (hm : 0 < m) (n : Nat) (t : Tb) (k : Nat) : PlaT m n (qAa m n t k) := by
 cases k
 ·exact qB2 fun i j _ => by
   split
   ·exact qA6 hm
   ·omega
 ·exact qAU hm _ _ _
def qBy (m : Int) (n : Nat) (t : Tb) (k : Nat) : List Tb := (List.range k).map (qAa m n t)
theorem qDE (m : Int) (n : Nat) (t : Tb) (k : Nat) : (qBy m n t k).length = k := by simp [qBy]
theorem qIS {m : Int} {n : Nat} {t : Tb} {k i : Nat} (h : i < k) : (qBy m n t k)[i]? = some (qAa m n t i) := by simp [qBy, h]
theorem qNg (m : Int) (n : Nat) (t : Tb) (k : Nat) : qBy m n t (k + 1) = qBy m n t k ++ [qAa m n t k] := by simp [qBy, List.range_succ]
theorem qM_ {a a' b b' : Nat → Nat → Int} {m : Int} {p q : Nat} (ha : ∀ i j, i ≤ p → j ≤ q → a i j % m = a' i j % m) (hb : ∀ i j, i ≤ p → j ≤ q → b i j % m = b' i j % m) : qBF a b p q % m = qBF a' b' p q % m :=
 qCI fun i hi => qCI fun j hj => qAd (ha i j Oo Oo) (hb _ _ Oo Oo)
theorem qO8 (a a' b : Nat → Nat → Int) (p q : Nat) : qBF (fun i j => a i j + a' i j) b p q = qBF a b p q + qBF a' b p q := by
 unfold qBF
 rw [← qLh]
 refine qE1 fun i _ => ?_
 rw [← qLh]
 exact qE1 fun j _ => Int.add_mul _ _ _
theorem qQY (b : Nat → Nat → Int) (p q : Nat) : qBF (fun _ _ => 0) b p q = 0 := qBG fun i _ => qBG fun j _ => Int.zero_mul _
theorem qOO (c : Int) (a b : Nat → Nat → Int) (p q : Nat) : qBF (fun i j => c * a i j) b p q = c * qBF a b p q := by
 unfold qBF
 rw [← qGT]
 refine qE1 fun i _ => ?_
 rw [← qGT]
 exact qE1 fun j _ => Int.mul_assoc _ _ _
theorem qNc (k : Nat) (c : Nat → Int) (A : Nat → Nat → Nat → Int) (b : Nat → Nat → Int) (p q : Nat) : qBF (fun i j => qA3 k (fun e => c e * A e i j)) b p q = qA3 k (fun e => c e * qBF (A e) b p q) := by
 induction k with
 | zero => simp only [qA3]; exact qQY b p q
 | succ k ih =>
   simp only [qA3]; rw [qO8, ih, qOO]
theorem qOh (f : Nat → Int) : qA3 1 f = f 0 := by simp [qA3]
theorem qQr (n : Nat) (f : Nat → Int) : qA3 (n + 1) f = f 0 + qA3 n (fun j => f (j + 1)) := by
 induction n with
 | zero => simp [qA3]
 | succ n ih => rw [qA3, ih]; simp only [qA3]; omega
def qDl (m c : Int) (n : Nat) (t : Tb) : Tb := tri n (fun i j => if i = 0 ∧ j = 0 then (atT t 0 0 + c) % m else atT t i j)
def qAK (m : Int) (n : Nat) (t : Tb) : Li → Tb
 | [] => qAb n
 | c :: cs => qDl m c n (qAO m n (qAK m n t cs) t)
theorem qE6 (m : Int) (n : Nat) (t : Tb) (cs : Li) : (qAK m n t cs).length = n := by
 cases cs <;> exact qA9 _ _
theorem qAF {m : Int} (hm : 0 < m) (n : Nat) (t : Tb) (cs : Li) : PlaT m n (qAK m n t cs) := by
 cases cs with
 | nil => exact qFH hm n
 | cons c cs =>
   refine qB2 fun i j h => ?_
   split
   ·exact qA6 hm
   ·unfold qAO; rw [qAi h]; exact qA6 hm
theorem qIY {m : Int} {n : Nat} {t : Tb} {a : Li} {i : Nat} {x : Int} (h : a[i]? = some x) : qAK m n t (a.drop i) = qDl m x n (qAO m n (qAK m n t (a.drop (i + 1))) t) := by
 obtain ⟨hl, rfl⟩ := List.getElem?_eq_some_iff.1 h
 rw [List.drop_eq_getElem_cons hl]; rfl
theorem qJj {m : Int} {n : Nat} {t : Tb} (cs : Li) : ∀ {i j : Nat}, i + j < n → atT (qAK m n t cs) i j = qA3 cs.length (fun k => at0 cs k * atT (qAa m n t k) i j) % m := by
 induction cs with
 | nil => intro i j h; unfold qAK qAb; rw [qAi h]; simp [qA3]
 | cons c cs ih =>
   intro i j h; rw [List.length_cons, qQr]; have e1 : ∀ k, at0 (c :: cs) (k + 1) = at0 cs k := fun k => rfl
   have e0 : at0 (c :: cs) 0 = c := rfl; simp only [e1, e0]
   have hT : atT (qAO m n (qAK m n t cs) t) i j % m = qA3 cs.length (fun k => at0 cs k * atT (qAa m n t (k + 1)) i j) % m := by
    unfold qAO; rw [qAi h, qCX]; rw [qM_ (m := m) (a' := fun i j => qA3 cs.length (fun k => at0 cs k * atT (qAa m n t k) i j)) (b' := atT t) (fun i' j' h1 h2 => by rw [ih Oo, qCX]) (fun _ _ _ _ => rfl)]; rw [qNc]; refine qCI fun k _ => qAd rfl ?_
    show _ = atT (qAO m n (qAa m n t k) t) i j % m
    unfold qAO; rw [qAi h, qCX]
   have h0 : atT (qAa m n t 0) i j = if i = 0 ∧ j = 0 then 1 % m else 0 := by unfold qAa; rw [qAi h]
   rw [h0]; unfold qAK qDl; rw [qAi h]
   by_cases e : i = 0 ∧ j = 0
   ·rw [if_pos e, if_pos e]; obtain ⟨rfl, rfl⟩ := e; rw [Int.add_comm]; refine qCU ?_ hT
    conv => lhs; rw [← Int.mul_one c]
    exact qAd rfl (qCX _ _).symm
   ·rw [if_neg e, if_neg e, Int.mul_zero, Int.zero_add, ← hT]; unfold qAO; rw [qAi h, qCX]
end
section

theorem qCr {α : Type} (f : Nat → List α) (n : Nat) (h : ∀ k, k < n → f k = []) : (List.range n).flatMap f = [] := by
 rw [List.flatMap_eq_nil_iff]
 exact fun x hx => h x (List.mem_range.1 hx)
theorem qET {α : Type} (f : Nat → List α) {n i : Nat} (hi : i < n) (h : ∀ k, k < i → f k = []) {x : α} {l : List α} (hx : f i = x :: l) : ∃ l', (List.range n).flatMap f = x :: l' := by
 obtain ⟨d, rfl⟩ : ∃ d, n = i + 1 + d := ⟨n - (i + 1), Oo⟩
 rw [List.range_add, List.flatMap_append, List.range_succ, List.flatMap_append, qCr f i h]
 refine ⟨l ++ ((List.range d).map (fun x => i + 1 + x)).flatMap f, ?_⟩
 simp [hx]

def qAx (m : Int) (n : Nat) (t : Tb) (a b c : Nat) : Int := qA3 (n - c) (fun i => atT t i c * atT (qAa m n t i) a b) % m
def qAt (m : Int) (n : Nat) (t : Tb) (a b c : Nat) : Int := qA3 (n - a) (fun j => atT t a j * atT (qAa m n t j) b c) % m
def qBM (i : Nat) : Int := if i = 1 then 1 else 0
def qDf (t : Tb) (n : Nat) : Tb := (List.range n).flatMap (fun (i : Nat) => if atT t i 0 = qBM i then [] else [[0, (i : Int)]])
def qDa (t : Tb) (n : Nat) : Tb := (List.range n).flatMap (fun (i : Nat) => (List.range n).flatMap (fun (j : Nat) => if i < j ∧ i + j < n ∧ atT t i j ≠ atT t j i then [[1, (i : Int), (j : Int)]] else []))
def qDd (m : Int) (t : Tb) (n : Nat) : Tb := (List.range n).flatMap (fun (a : Nat) => (List.range n).flatMap (fun (b : Nat) => (List.range n).flatMap (fun (c : Nat) => if a + b + c < n ∧ qAx m n t a b c ≠ qAt m n t a b c then [[2, (a : Int), (b : Int), (c : Int)]] else [])))
def qAV (m : Int) (t : Tb) (n : Nat) : Li := (qDf t n ++ (qDa t n ++ qDd m t n)).headD []

theorem qIQ {t : Tb} {n : Nat} (h : ∀ i, i < n → atT t i 0 = qBM i) : qDf t n = [] := qCr _ _ fun k hk => if_pos (h k hk)
theorem qLi {t : Tb} {n : Nat} (h : ∀ i j, i < j → i + j < n → atT t i j = atT t j i) : qDa t n = [] :=
 qCr _ _ fun i _ => qCr _ _ fun j _ => if_neg fun hh => hh.2.2 (h i j hh.1 hh.2.1)
theorem qMC {m : Int} {t : Tb} {n : Nat} (h : ∀ a b c, a + b + c < n → qAx m n t a b c = qAt m n t a b c) : qDd m t n = [] :=
 qCr _ _ fun a _ => qCr _ _ fun b _ => qCr _ _ fun c _ => if_neg fun hh => hh.2 (h a b c hh.1)
theorem qG1 {m : Int} {t : Tb} {n i : Nat} (hi : i < n) (h : ∀ k, k < i → atT t k 0 = qBM k) (hx : atT t i 0 ≠ qBM i) : qAV m t n = [0, (i : Int)] := by
 obtain ⟨l, hl⟩ := qET (fun (i : Nat) => if atT t i 0 = qBM i then [] else [[0, (i : Int)]]) hi (fun k hk => if_pos (h k hk)) (if_neg hx)
 have hf : qDf t n = [0, (i : Int)] :: l := hl
 unfold qAV
 rw [hf]; rfl
theorem qK1 {m : Int} {t : Tb} {n i j : Nat} (hij : i < j) (hn : i + j < n) (h1 : ∀ k, k < n → atT t k 0 = qBM k) (hA : ∀ i', i' < i → ∀ j', i' < j' → i' + j' < n → atT t i' j' = atT t j' i')
  (hB : ∀ j', i < j' → j' < j → atT t i j' = atT t j' i) (hx : atT t i j ≠ atT t j i) : qAV m t n = [1, (i : Int), (j : Int)] := by
 obtain ⟨l, hl⟩ := qET (n := n) (fun (j : Nat) => if i < j ∧ i + j < n ∧ atT t i j ≠ atT t j i then [[1, (i : Int), (j : Int)]] else []) (show j < n by omega) (fun k hk => if_neg fun hh => hh.2.2 (hB k hh.1 hk)) (if_pos ⟨hij, hn, hx⟩)
 obtain ⟨l', hl'⟩ := qET (n := n) (fun (i : Nat) => (List.range n).flatMap (fun (j : Nat) => if i < j ∧ i + j < n ∧ atT t i j ≠ atT t j i then [[1, (i : Int), (j : Int)]] else [])) (show i < n by omega)
  (fun k hk => qCr _ _ fun j _ => if_neg fun hh => hh.2.2 (hA k hk j hh.1 hh.2.1)) hl
 have hf : qDa t n = [1, (i : Int), (j : Int)] :: l' := hl'
 unfold qAV
 rw [qIQ h1, hf]; rfl
theorem qLt {m : Int} {t : Tb} {n a b c : Nat} (hn : a + b + c < n) (h1 : ∀ k, k < n → atT t k 0 = qBM k) (h2 : ∀ i j, i < j → i + j < n → atT t i j = atT t j i)
  (hA : ∀ a', a' < a → ∀ b c, a' + b + c < n → qAx m n t a' b c = qAt m n t a' b c) (hB : ∀ b', b' < b → ∀ c, a + b' + c < n → qAx m n t a b' c = qAt m n t a b' c)
  (hC : ∀ c', c' < c → qAx m n t a b c' = qAt m n t a b c') (hx : qAx m n t a b c ≠ qAt m n t a b c) : qAV m t n = [2, (a : Int), (b : Int), (c : Int)] := by
 obtain ⟨l, hl⟩ := qET (n := n) (fun (c : Nat) => if a + b + c < n ∧ qAx m n t a b c ≠ qAt m n t a b c then [[2, (a : Int), (b : Int), (c : Int)]] else []) (show c < n by omega) (fun k hk => if_neg fun hh => hh.2 (hC k hk)) (if_pos ⟨hn, hx⟩)
 obtain ⟨l', hl'⟩ := qET (n := n) (fun (b : Nat) => (List.range n).flatMap (fun (c : Nat) => if a + b + c < n ∧ qAx m n t a b c ≠ qAt m n t a b c then [[2, (a : Int), (b : Int), (c : Int)]] else [])) (show b < n by omega)
  (fun k hk => qCr _ _ fun c _ => if_neg fun hh => hh.2 (hB k hk c hh.1)) hl
 obtain ⟨l'', hl''⟩ := qET (n := n) (fun (a : Nat) => (List.range n).flatMap (fun (b : Nat) => (List.range n).flatMap (fun (c : Nat) => if a + b + c < n ∧ qAx m n t a b c ≠ qAt m n t a b c then [[2, (a : Int), (b : Int), (c : Int)]] else []))) (show a < n by omega)
  (fun k hk => qCr _ _ fun b _ => qCr _ _ fun c _ => if_neg fun hh => hh.2 (hA k hk b c hh.1)) hl'
 have hf : qDd m t n = [2, (a : Int), (b : Int), (c : Int)] :: l'' := hl''
 unfold qAV
 rw [qIQ h1, qLi h2, hf]; rfl
theorem qHW {m : Int} {t : Tb} {n : Nat} (h1 : ∀ k, k < n → atT t k 0 = qBM k) (h2 : ∀ i j, i < j → i + j < n → atT t i j = atT t j i)
  (h3 : ∀ a b c, a + b + c < n → qAx m n t a b c = qAt m n t a b c) : qAV m t n = [] := by
 unfold qAV
 rw [qIQ h1, qLi h2, qMC h3]; rfl

theorem qOR {t : Tb} {n : Nat} {l : Li} (h : l ∈ qDf t n) : ∃ i : Nat, i < n ∧ l = [0, (i : Int)] ∧ atT t i 0 ≠ qBM i := by
 unfold qDf at h
 obtain ⟨i, hi, hl⟩ := List.mem_flatMap.1 h
 split at hl
 ·simp at hl
 ·rename_i hne; exact ⟨i, List.mem_range.1 hi, by simpa using hl, hne⟩
theorem qO3 {t : Tb} {n : Nat} {l : Li} (h : l ∈ qDa t n) : ∃ i j : Nat, i < j ∧ i + j < n ∧ l = [1, (i : Int), (j : Int)] ∧ atT t i j ≠ atT t j i := by
 unfold qDa at h
 obtain ⟨i, hi, hl⟩ := List.mem_flatMap.1 h
 obtain ⟨j, hj, hl⟩ := List.mem_flatMap.1 hl
 split at hl
 ·rename_i hh; exact ⟨i, j, hh.1, hh.2.1, by simpa using hl, hh.2.2⟩
 ·simp at hl
theorem qN8 {m : Int} {t : Tb} {n : Nat} {l : Li} (h : l ∈ qDd m t n) : ∃ a b c : Nat, a + b + c < n ∧ l = [2, (a : Int), (b : Int), (c : Int)] ∧ qAx m n t a b c ≠ qAt m n t a b c := by
 unfold qDd at h
 obtain ⟨i, hi, hl⟩ := List.mem_flatMap.1 h
 obtain ⟨j, hj, hl⟩ := List.mem_flatMap.1 hl
 obtain ⟨c, hc, hl⟩ := List.mem_flatMap.1 hl
 split at hl
 ·rename_i hh; exact ⟨i, j, c, hh.1, by simpa using hl, hh.2⟩
 ·simp at hl
theorem qM3 {m : Int} {t : Tb} {n : Nat} (h : qAV m t n = []) :
  (∀ k, k < n → atT t k 0 = qBM k) ∧ (∀ i j, i < j → i + j < n → atT t i j = atT t j i) ∧ (∀ a b c, a + b + c < n → qAx m n t a b c = qAt m n t a b c) := by
 have e : qDf t n ++ (qDa t n ++ qDd m t n) = [] := by
  cases e : qDf t n ++ (qDa t n ++ qDd m t n) with
  | nil => rfl
  | cons x l =>
    have hx : x ∈ qDf t n ++ (qDa t n ++ qDd m t n) := by rw [e]; simp
    unfold qAV at h; rw [e] at h; have h : x = [] := h; subst h; rcases List.mem_append.1 hx with h | h
    ·obtain ⟨i, -, h, -⟩ := qOR h; cases h
    ·rcases List.mem_append.1 h with h | h
     ·obtain ⟨i, j, -, -, h, -⟩ := qO3 h; cases h
     ·obtain ⟨a, b, c, -, h, -⟩ := qN8 h; cases h
 have e1 : qDf t n = [] := (List.append_eq_nil_iff.1 e).1
 have e2 : qDa t n = [] := (List.append_eq_nil_iff.1 (List.append_eq_nil_iff.1 e).2).1
 have e3 : qDd m t n = [] := (List.append_eq_nil_iff.1 (List.append_eq_nil_iff.1 e).2).2
 refine ⟨fun k hk => ?_, fun i j hij hn => ?_, fun a b c hn => ?_⟩
 ·have := List.flatMap_eq_nil_iff.1 e1 k (List.mem_range.2 hk)
  by_cases hh : atT t k 0 = qBM k
  ·exact hh
  ·rw [if_neg hh] at this; cases this
 ·have := List.flatMap_eq_nil_iff.1 (List.flatMap_eq_nil_iff.1 e2 i (List.mem_range.2 Oo)) j (List.mem_range.2 Oo)
  by_cases hh : atT t i j = atT t j i
  ·exact hh
  ·rw [if_pos ⟨hij, hn, hh⟩] at this; cases this
 ·have := List.flatMap_eq_nil_iff.1 (List.flatMap_eq_nil_iff.1 (List.flatMap_eq_nil_iff.1 e3 a (List.mem_range.2 Oo)) b (List.mem_range.2 Oo)) c (List.mem_range.2 Oo)
  by_cases hh : qAx m n t a b c = qAt m n t a b c
  ·exact hh
  ·rw [if_pos ⟨hn, hh⟩] at this; cases this

def qCg (t : Tb) (n j : Nat) : Li := mk (n - j) (fun i => atT t i j)
theorem qI2 (t : Tb) (n j : Nat) : (qCg t n j).length = n - j := qA8 _ _
theorem qQQ {m : Int} {n : Nat} {t : Tb} {a b c : Nat} (h : a + b + c < n) : atT (qAK m n t (qCg t n c)) a b = qAx m n t a b c := by
 rw [qJj _ Oo, qI2]
 unfold qAx
 congr 1
 exact qE1 fun k hk => by unfold qCg; rw [qBN hk]
theorem qMy {m : Int} {n : Nat} {t : Tb} (ht : PlaT m n t) {a b c : Nat} (h : a + b + c < n) (row : Li) (hr : t[a]? = some row) : atT (qAK m n t row) b c = qAt m n t a b c := by
 obtain ⟨hl, rfl⟩ := List.getElem?_eq_some_iff.1 hr
 rw [qJj _ Oo, (ht.2 a hl).1, ht.1]
 unfold qAt
 congr 1
 exact qE1 fun k hk => by rw [qDI hl]
end
section

theorem qGw {m : Int} (hm : 0 < m) (hm' : m ≤ 10000) (f : Nat → Int) (k : Nat) : 0 ≤ qA3 k (fun i => f i % m) ∧ qA3 k (fun i => f i % m) ≤ (k : Int) * 10000 := by
 induction k with
 | zero => simp [qA3]
 | succ k ih =>
   simp only [qA3]; have := qA6 (a := f k) hm; have e : ((k + 1 : Nat) : Int) * 10000 = (k : Int) * 10000 + 10000 := Oo; omega
theorem qJH (m : Int) (f : Nat → Int) (k : Nat) : qA3 k (fun i => f i % m) % m = qA3 k f % m := qCI fun i _ => qCX _ _
def qD1 (m : Int) (n : Nat) (t : Tb) (a b c k : Nat) : Int := qA3 k (fun i => atT t i c * atT (qAa m n t i) a b % m)
def qD6 (m : Int) (n : Nat) (t : Tb) (a b c k : Nat) : Int := qA3 k (fun j => atT t a j * atT (qAa m n t j) b c % m)
def qEY (m : Int) (n : Nat) (t : Tb) (a b c : Nat) : Int := (qD1 m n t a b c (n - c) - qD6 m n t a b c (n - a)) % m
theorem qLB {m : Int} {n : Nat} {t : Tb} {a b c : Nat} : (qEY m n t a b c != 0) = true ↔ qAx m n t a b c ≠ qAt m n t a b c := by
 have e : qEY m n t a b c = 0 ↔ qAx m n t a b c = qAt m n t a b c := by
  unfold qEY qAx qAt; rw [← qJH m (fun i => atT t i c * atT (qAa m n t i) a b), ← qJH m (fun j => atT t a j * atT (qAa m n t j) b c)]; exact Int.emod_eq_emod_iff_emod_sub_eq_zero.symm
 rw [bne_iff_ne, ne_eq, e]
theorem defC_1 {m : Int} {n : Nat} {t : Tb} {a b c : Nat} (h : (qEY m n t a b c != 0) = false) : qAx m n t a b c = qAt m n t a b c := by
 by_cases e : qAx m n t a b c = qAt m n t a b c
 ·exact e
 ·rw [qLB.2 e] at h; cases h
theorem qPu (m : Int) (n : Nat) (t : Tb) (a b c k : Nat) : qD1 m n t a b c (k + 1) = qD1 m n t a b c k + atT t k c * atT (qAa m n t k) a b % m := rfl
theorem qP9 (m : Int) (n : Nat) (t : Tb) (a b c k : Nat) : qD6 m n t a b c (k + 1) = qD6 m n t a b c k + atT t a k * atT (qAa m n t k) b c % m := rfl
end
section

def qB8 (t s : Tb) (d : Nat) : Bool := (List.range (d + 1)).all (fun i => atT t i (d - i) == atT s i (d - i))
theorem qFN {t s : Tb} {d : Nat} (h : ∀ i, i ≤ d → atT t i (d - i) = atT s i (d - i)) : qB8 t s d = true := by
 unfold qB8
 rw [List.all_eq_true]
 intro i hi
 have := List.mem_range.1 hi
 simpa using h i Oo
theorem agrA_f {t s : Tb} {d i : Nat} (hi : i ≤ d) (h : atT t i (d - i) ≠ atT s i (d - i)) : qB8 t s d = false := by
 unfold qB8
 rw [List.all_eq_false]
 exact ⟨i, List.mem_range.2 Oo, by simpa using h⟩
def agrK (t s : Tb) (n : Nat) : Nat := ((List.range n).flatMap (fun d => if qB8 t s d then [] else [d])).headD n
theorem qHK {t s : Tb} {n k : Nat} (hk : k < n) (h : ∀ d, d < k → qB8 t s d = true) (hx : qB8 t s k = false) : agrK t s n = k := by
 obtain ⟨l, hl⟩ := qET (fun d => if qB8 t s d then [] else [d]) hk (fun d hd => by simp [h d hd]) (x := k) (l := []) (by simp [hx])
 unfold agrK
 rw [hl]; rfl
theorem qLd {t s : Tb} {n : Nat} (h : ∀ d, d < n → qB8 t s d = true) : agrK t s n = n := by
 unfold agrK
 rw [qCr _ _ (fun d hd => by simp [h d hd])]; rfl
theorem qJe (t s : Tb) (n : Nat) : agrK t s n ≤ n := by
 unfold agrK
 cases e : (List.range n).flatMap (fun d => if qB8 t s d then [] else [d]) with
 | nil => exact Nat.le_refl _
 | cons x l =>
   have hx : x ∈ (List.range n).flatMap (fun d => if qB8 t s d then [] else [d]) := by rw [e]; simp
   obtain ⟨d, hd, hd2⟩ := List.mem_flatMap.1 hx
   split at hd2
   ·simp at hd2
   ·have hd3 : x = d := by simpa using hd2
    have := List.mem_range.1 hd
    show x ≤ n
    omega
def qAk (n : Nat) : Li := (List.replicate n 0).set 1 1
theorem qD8 (n : Nat) : (qAk n).length = n := by simp [qAk]
theorem qHZ {m : Int} (hm : 2 ≤ m) (n : Nat) : ∀ x ∈ qAk n, 0 ≤ x ∧ x < m := by
 intro x hx
 rcases List.mem_or_eq_of_mem_set hx with h | rfl
 ·simp at h; omega
 ·omega
end
section

def bpF (n : Nat) (t : Nat → Nat → Int) (P Q : Nat → Li) (i j k l p q : Nat) : Int := if (i ≤ p ∧ j ≤ q) ∧ (p < k ∨ (p = k ∧ q < l)) then qBo n t P Q i (j + 1) p q else qBo n t P Q i j p q
def bpT (m : Int) (n : Nat) (t : Nat → Nat → Int) (P Q : Nat → Li) (i j k l : Nat) : Tb := tri n (fun p q => bpF n t P Q i j k l p q % m)
def bpR (m : Int) (n : Nat) (t : Nat → Nat → Int) (P Q : Nat → Li) (i j k l : Nat) : Li := mk (n - k) (fun q => bpF n t P Q i j k l k q % m)
theorem qH2 (m : Int) (n : Nat) (t : Nat → Nat → Int) (P Q : Nat → Li) (i j k l : Nat) : (bpR m n t P Q i j k l).length = n - k := qA8 _ _
theorem qLR {m : Int} {n : Nat} {t : Nat → Nat → Int} {P Q : Nat → Li} {i j k l : Nat} (h : k < n) : (bpT m n t P Q i j k l)[k]? = some (bpR m n t P Q i j k l) := qAp h
theorem qQ4 {m : Int} {n : Nat} {t : Nat → Nat → Int} {P Q : Nat → Li} {i j k l : Nat} (h : k + l < n) : (bpR m n t P Q i j k l)[l]? = some (qBo n t P Q i j k l % m) := by
 unfold bpR
 rw [qAy Oo]
 unfold bpF
 rw [if_neg Oo]
theorem bpT_0 {m : Int} {n : Nat} {t : Nat → Nat → Int} {P Q : Nat → Li} {i j : Nat} : qBt m n t P Q i j = bpT m n t P Q i j i j :=
 qAE fun p q _ => by unfold bpF; rw [if_neg Oo]
theorem qLy {m : Int} {n : Nat} {t : Nat → Nat → Int} {P Q : Nat → Li} {i j k l : Nat} (h : t i j = 0) : bpT m n t P Q i j k l = qBt m n t P Q i (j + 1) :=
 qAE fun p q _ => by
  unfold bpF; have e : qBo n t P Q i j p q = qBo n t P Q i (j + 1) p q := by rw [qFT, h, Int.zero_mul, Int.add_zero]
  rw [e, ite_self]
theorem qNq {m : Int} {n : Nat} {t : Nat → Nat → Int} {P Q : Nat → Li} {i j k l : Nat} (h : n ≤ k + l) : bpT m n t P Q i j k l = bpT m n t P Q i j (k + 1) j :=
 qAE fun p q hpq => by
  unfold bpF
  by_cases e : (i ≤ p ∧ j ≤ q) ∧ (p < k ∨ (p = k ∧ q < l))
  ·rw [if_pos e, if_pos Oo]
  ·rw [if_neg e, if_neg Oo]
theorem qMj {m : Int} {n : Nat} {t : Nat → Nat → Int} {P Q : Nat → Li} {i j l : Nat} (hP : ∀ k, k < i → at0 (P i) k = 0) (hQ : ∀ k, k < j → at0 (Q j) k = 0) : bpT m n t P Q i j n l = qBt m n t P Q i (j + 1) :=
 qAE fun p q hpq => by
  unfold bpF
  by_cases e : i ≤ p ∧ j ≤ q
  ·rw [if_pos Oo]
  ·rw [if_neg Oo, qFT]
   have : at0 (P i) p * at0 (Q j) q = 0 := by
    by_cases e1 : p < i
    ·rw [hP p e1, Int.zero_mul]
    ·rw [hQ q Oo, Int.mul_zero]
   rw [this, Int.mul_zero, Int.add_zero]
theorem bp_num {m : Int} {n : Nat} {t : Nat → Nat → Int} {P Q : Nat → Li} {i j k l : Nat} :
  (qBo n t P Q i j k l % m + t i j * at0 (P i) k % m * at0 (Q j) l) % m = qBo n t P Q i (j + 1) k l % m := by
 rw [qFT]
 refine qCU (qCX _ _) ?_
 rw [← Int.mul_assoc]
 exact qAd (qCX _ _) rfl
theorem qMi {m : Int} {n : Nat} {t : Nat → Nat → Int} {P Q : Nat → Li} {i j k l : Nat} (hi : i ≤ k) (hj : j ≤ l) (h : k + l < n) :
  (bpT m n t P Q i j k l).set k ((bpR m n t P Q i j k l).set l ((qBo n t P Q i j k l % m + t i j * at0 (P i) k % m * at0 (Q j) l) % m)) = bpT m n t P Q i j k (l + 1) := by
 rw [bp_num]
 unfold bpT bpR
 rw [qBp (f := fun p q => bpF n t P Q i j k l p q % m) h]
 refine qAE fun p q hpq => ?_
 unfold bpF
 by_cases e : p = k ∧ q = l
 ·obtain ⟨rfl, rfl⟩ := e; rw [if_pos ⟨rfl, rfl⟩, if_pos Oo]
 ·rw [if_neg e]
  by_cases e2 : (i ≤ p ∧ j ≤ q) ∧ (p < k ∨ (p = k ∧ q < l))
  ·rw [if_pos e2, if_pos Oo]
  ·rw [if_neg e2, if_neg Oo]
end
section
open Go
section
variable {P : Program} {ops : Array Oper} {Q : Exit → Act → World → Prop} {md : Region.Mode} {S : World → Prop}

def qCF (P : Program) (md : Region.Mode) (ops : Array Oper) (Q : Exit → Act → World → Prop) (S : World → Prop) (s : Nat) : Nat → Array Bool → Act → World → Prop
 | 0, listed, a, w => Region.ready md ops listed = [] ∧ Q .normal a w
 | fuel + 1, listed, a, w =>
   (Region.ready md ops listed = [] → Q .normal a w) ∧
   ∀ i ∈ Region.ready md ops listed, wpOp P ops Q i (fun a' w' => (i < s → S w') ∧ qCF P md ops Q S s fuel (listed.setIfInBounds i true) a' w') a w

theorem qJ3 {s : Nat} : ∀ (fuel : Nat) (listed : Array Bool) (a : Act) (w : World), qCF P md ops Q S s fuel listed a w → wpAny P md ops Q fuel listed a w
 | 0, _, _, _, h => h
 | fuel + 1, _, _, _, h => ⟨h.1, fun i hi => wpOp_mono (fun a' w' h' => qJ3 fuel _ a' w' h'.2) (h.2 i hi)⟩

def qD4 (md : Region.Mode) (ops : Array Oper) (s i : Nat) : Bool := match ops[s]? with
 | some o => o.after.any fun e => Region.binds md e && e.on == i
 | none => false
theorem qHv {s i : Nat} {listed : Array Bool} (h : qD4 md ops s i = true) (hu : listed.getD i true = false) : s ∉ Region.ready md ops listed := by
 intro hs
 obtain ⟨-, o, ho, hall⟩ := mem_ready.1 hs
 unfold qD4 at h
 rw [ho] at h
 obtain ⟨e, he, hb⟩ := Array.any_eq_true'.1 h
 simp only [Bool.and_eq_true, beq_iff_eq] at hb
 have h1 := hall e he hb.1
 rw [hb.2] at h1
 rcases Nat.lt_or_ge i listed.size with h' | h'
 ·simp [h'] at hu h1; rw [hu] at h1; cases h1
 ·simp [Array.getElem?_eq_none h'] at h1

def qHJ (md : Region.Mode) (ops : Array Oper) (s i : Nat) : Bool := (List.range ops.size).all fun j => decide (j < s) || qD4 md ops j i
theorem qM7 {s i : Nat} (h : qHJ md ops s i = true) : ∀ j, s ≤ j → j < ops.size → qD4 md ops j i = true := by
 intro j h1 h2
 have := List.all_eq_true.1 h j (List.mem_range.2 h2)
 simp only [Bool.or_eq_true, decide_eq_true_eq] at this
 rcases this with h | h
 ·omega
 ·exact h

theorem qPD {s i : Nat} {oi : Oper} {v : Value} (hi : ops[i]? = some oi) (hsel : ∀ (j : Nat) (o : Oper) cs b, ops[j]? = some o → o.op ≠ .select cs b) (his : i < s) (hw : ∀ j, s ≤ j → j < ops.size → qD4 md ops j i = true)
  (hQ : ∀ c a w, Q (.panic c) (a.put oi.dst v) w → Q (.panic c) a w) :
  ∀ (fuel : Nat) (listed : Array Bool) (a : Act) (w : World),
    (∀ j oj, ops[j]? = some oj → j ≠ i → listed.getD j true = false → (∀ e ∈ oj.after, Region.binds md e = true → e.on ≠ i) → oi.apart ops oj = true) →
    i ∈ Region.ready md ops listed → YieldsIf P ops S oi v a → S w →
    qCF P md ops Q S s fuel (listed.setIfInBounds i true) (a.put oi.dst v) w → qCF P md ops Q S s (fuel + 1) listed a w := by
 intro fuel
 induction fuel with
 | zero =>
   intro listed a w _ hr hy hS H; refine ⟨fun h => (by rw [h] at hr; cases hr), fun j hj => ?_⟩
   by_cases hji : j = i
   ·subst hji; exact hy.wpOp hi hS ⟨fun _ => hS, H⟩
   ·have := ready_mono hj hji; rw [H.1] at this; cases this
 | succ fuel ih =>
   intro listed a w hfree hr hy hS H; refine ⟨fun h => (by rw [h] at hr; cases hr), fun j hj => ?_⟩
   by_cases hji : j = i
   ·subst hji; exact hy.wpOp hi hS ⟨fun _ => hS, H⟩
   ·have h1 := H.2 j (ready_mono hj hji); obtain ⟨hjun, oj, hoj, hall⟩ := mem_ready.1 hj; have hjs : j < s := Classical.byContradiction fun e => qHv (hw j Oo (Array.getElem?_eq_some_iff.1 hoj).1) (mem_ready.1 hr).1 hj
    have hnot : ∀ e ∈ oj.after, Region.binds md e = true → e.on ≠ i := fun e he hb heq => by
     have h1 := hall e he hb; have h0 := (mem_ready.1 hr).1; rw [heq] at h1; rcases Nat.lt_or_ge i listed.size with h' | h'
     ·simp [h'] at h0 h1; rw [h0] at h1; cases h1
     ·simp [Array.getElem?_eq_none h'] at h1
    have h2 := wpOp_putIf hoj (hfree j oj hoj hji hjun hnot) (fun cs b => hsel i oi cs b hi) (fun cs b => hsel j oj cs b hoj) hQ hy h1
    have hfree' : ∀ k ok, ops[k]? = some ok → k ≠ i → (listed.setIfInBounds j true).getD k true = false →
      (∀ e ∈ ok.after, Region.binds md e = true → e.on ≠ i) → oi.apart ops ok = true := fun k ok hk hki hun hno => by
     refine hfree k ok hk hki ?_ hno
     by_cases hjk : j = k
     ·subst hjk; exact hjun
     ·rw [getD_set_ne true hjk] at hun; exact hun
    refine wpOp_mono (fun a' w' h3 => ⟨fun _ => h3.2.1 hjs, ih (listed.setIfInBounds j true) a' w' hfree' (ready_mono hr (Ne.symm hji)) h3.1 (h3.2.1 hjs) ?_⟩) h2; rw [Array.setIfInBounds_comm _ _ hji]; exact h3.2.2

theorem qQ6 {s i : Nat} {oi : Oper} {v : Value} {fuel : Nat} {listed : Array Bool} {a : Act} {w : World} (hi : ops[i]? = some oi)
  (hs : Region.noSelect ops = true) (hf : Region.free md ops listed i = true) (hr : (Region.ready md ops listed).contains i = true) (his : (decide (i < s) && qHJ md ops s i) = true)
  (hQ : ∀ c a w, Q (.panic c) (a.put oi.dst v) w → Q (.panic c) a w) (hy : YieldsIf P ops S oi v a) (hS : S w)
  (h : qCF P md ops Q S s fuel (listed.setIfInBounds i true) (a.put oi.dst v) w) : qCF P md ops Q S s (fuel + 1) listed a w := by
 simp only [Bool.and_eq_true, decide_eq_true_eq] at his
 exact qPD hi (Region.noSelect_spec hs) his.1 (qM7 his.2) hQ fuel listed a w (Region.free_spec hi hf) (by simpa using hr) hy hS h

theorem toL {i : Nat} {o : Oper} (h : ops.toList[i]? = some o) : ops[i]? = some o := by rw [← Array.getElem?_toList]; exact h
theorem qBL {s i : Nat} {oi : Oper} {v : Value} {fuel : Nat} {listed : Array Bool} {a : Act} {w : World} (hi : ops.toList[i]? = some oi)
  (hs : Region.noSelect ops = true) (hf : Region.free md ops listed i = true) (hr : (Region.ready md ops listed).contains i = true) (his : (decide (i < s) && qHJ md ops s i) = true)
  (hQ : ∀ c a w, Q (.panic c) (a.put oi.dst v) w → Q (.panic c) a w) (hy : YieldsIf P ops S oi v a) (hS : S w)
  (h : qCF P md ops Q S s fuel (listed.setIfInBounds i true) (a.put oi.dst v) w) : qCF P md ops Q S s (fuel + 1) listed a w :=
 qQ6 (toL hi) hs hf hr his hQ hy hS h

theorem qMk {s i : Nat} {o : Oper} {fuel : Nat} {listed : Array Bool} {a : Act} {w : World} (ho : ops[i]? = some o) (hr : Region.ready md ops listed = [i])
  (h : ∀ K' : Act → World → Prop, Shut (∀ a w, (i < s → S w) → qCF P md ops Q S s fuel (listed.setIfInBounds i true) a w → K' a w) → if Region.wanted o (yielded ops a.tmps) = true then Oper.wp P o a w K' Q else K' (a.put o.dst undef) w) :
  qCF P md ops Q S s (fuel + 1) listed a w :=
 ⟨fun h0 => absurd (hr ▸ h0) (by simp), fun j hj => by
  rw [hr] at hj; obtain rfl : j = i := by simpa using hj
  exact wpOp_step ho (fun K' hK => h K' (fun a w hS hW => hK a w ⟨hS, hW⟩))⟩

theorem qCR {s i : Nat} {o : Oper} {fuel : Nat} {listed : Array Bool} {a : Act} {w : World} (ho : ops.toList[i]? = some o) (hr : Region.ready md ops listed = [i])
  (h : ∀ K' : Act → World → Prop, Shut (∀ a w, (i < s → S w) → qCF P md ops Q S s fuel (listed.setIfInBounds i true) a w → K' a w) → if Region.wanted o (yielded ops a.tmps) = true then Oper.wp P o a w K' Q else K' (a.put o.dst undef) w) :
  qCF P md ops Q S s (fuel + 1) listed a w := qMk (toL ho) hr h

theorem qH5 {s : Nat} {listed : Array Bool} {a : Act} {w : World} (hr : Region.ready md ops listed = []) (h : Q .normal a w) :
  ∀ fuel, qCF P md ops Q S s fuel listed a w
 | 0 => ⟨hr, h⟩
 | _ + 1 => ⟨fun _ => h, by rw [hr]; simp⟩

theorem qHs {id : Nat} {a : Act} {w : World} (s : Nat) (hm : P.follows .mixedOrders = true)
  (h : qCF P .any ops Q S s ops.size (Array.replicate ops.size false) a w.drew) : (Code.region id ops true).wp P Q a w :=
 wp_region_any hm (qJ3 _ _ _ _ h)
end
end
section
open Go
section
variable {P : Program} {ops : Array Oper} {Q : Exit → Act → World → Prop} {md : Region.Mode} {S : World → Prop} {ex : List Nat}

def qB4 (P : Program) (md : Region.Mode) (ops : Array Oper) (Q : Exit → Act → World → Prop) (S : World → Prop) (ex : List Nat) : Nat → Array Bool → Act → World → Prop
 | 0, listed, a, w => Region.ready md ops listed = [] ∧ Q .normal a w
 | fuel + 1, listed, a, w =>
   (Region.ready md ops listed = [] → Q .normal a w) ∧
   ∀ i ∈ Region.ready md ops listed, wpOp P ops Q i (fun a' w' => (ex.contains i = false → S w') ∧ qB4 P md ops Q S ex fuel (listed.setIfInBounds i true) a' w') a w

theorem qL3 : ∀ (fuel : Nat) (listed : Array Bool) (a : Act) (w : World), qB4 P md ops Q S ex fuel listed a w → wpAny P md ops Q fuel listed a w
 | 0, _, _, _, h => h
 | fuel + 1, _, _, _, h => ⟨h.1, fun i hi => wpOp_mono (fun a' w' h' => qL3 fuel _ a' w' h'.2) (h.2 i hi)⟩

def depL (md : Region.Mode) (ops : Array Oper) (i : Nat) : List Nat := (List.range ops.size).foldl (fun L j => if qD4 md ops j i || L.any (fun k => qD4 md ops j k) then j :: L else L) []
def qGY (md : Region.Mode) (ops : Array Oper) (ex : List Nat) (listed : Array Bool) (i : Nat) (L : List Nat) : Bool :=
 L.all (fun j => qD4 md ops j i || L.any (fun k => qD4 md ops j k)) && L.all (fun j => !listed.getD j true) && ex.all (fun j => listed.getD j false || L.contains j) && !ex.contains i
def Lock (md : Region.Mode) (ops : Array Oper) (ex : List Nat) (i : Nat) (L : List Nat) (listed : Array Bool) : Prop :=
 (∀ j ∈ L, qD4 md ops j i = true ∨ ∃ k ∈ L, qD4 md ops j k = true) ∧ (∀ j ∈ L, listed.getD j true = false) ∧ (∀ j ∈ ex, listed.getD j false = true ∨ j ∈ L) ∧ ex.contains i = false
theorem qQ5 {i : Nat} {L : List Nat} {listed : Array Bool} (h : qGY md ops ex listed i L = true) : Lock md ops ex i L listed := by
 simp only [qGY, Bool.and_eq_true, List.all_eq_true, Bool.or_eq_true, List.any_eq_true, Bool.not_eq_true', List.contains_iff_mem] at h
 obtain ⟨⟨⟨h1, h2⟩, h3⟩, h4⟩ := h
 refine ⟨fun j hj => h1 j hj, h2, h3, ?_⟩
 simpa using h4
theorem Lock.out {i : Nat} {L : List Nat} {listed : Array Bool} (h : Lock md ops ex i L listed) (hi : listed.getD i true = false) {j : Nat} (hj : j ∈ Region.ready md ops listed) : j ∉ L := by
 intro hL
 rcases h.1 j hL with h1 | ⟨k, hk, h1⟩
 ·exact qHv h1 hi hj
 ·exact qHv h1 (h.2.1 k hk) hj
theorem Lock.set {i : Nat} {L : List Nat} {listed : Array Bool} (h : Lock md ops ex i L listed) {j : Nat} (hj : j ∉ L) : Lock md ops ex i L (listed.setIfInBounds j true) :=
 ⟨h.1, fun k hk => by rw [getD_set_ne true (show j ≠ k from fun e => hj (by rw [e]; exact hk))]; exact h.2.1 k hk, fun k hk => (h.2.2.1 k hk).imp getD_set_true id, h.2.2.2⟩
theorem Lock.keeps {i : Nat} {L : List Nat} {listed : Array Bool} (h : Lock md ops ex i L listed) (hi : listed.getD i true = false) {j : Nat} (hj : j ∈ Region.ready md ops listed) : ex.contains j = false := by
 cases e : ex.contains j
 ·rfl
 ·have hm : j ∈ ex := by simpa using e
  rcases h.2.2.1 j hm with h1 | h1
  ·have h0 := (mem_ready.1 hj).1; rcases Nat.lt_or_ge j listed.size with h' | h'
   ·simp [h'] at h0 h1; rw [h0] at h1; cases h1
   ·simp [Array.getElem?_eq_none h'] at h1
  ·exact absurd h1 (h.out hi hj)

theorem qJt {i j : Nat} {oj : Oper} {listed : Array Bool} (hi : listed.getD i true = false) (hall : ∀ e ∈ oj.after, Region.binds md e = true → listed.getD e.on false = true) : ∀ e ∈ oj.after, Region.binds md e = true → e.on ≠ i := fun e he hb heq => by
 have h1 := hall e he hb
 rw [heq] at h1
 rcases Nat.lt_or_ge i listed.size with h' | h'
 ·simp [h'] at hi h1; rw [hi] at h1; cases h1
 ·simp [Array.getElem?_eq_none h'] at h1

theorem qNp {i : Nat} {L : List Nat} {oi : Oper} {v : Value} (hi : ops[i]? = some oi) (hsel : ∀ (j : Nat) (o : Oper) cs b, ops[j]? = some o → o.op ≠ .select cs b)
  (hQ : ∀ c a w, Q (.panic c) (a.put oi.dst v) w → Q (.panic c) a w) :
  ∀ (fuel : Nat) (listed : Array Bool) (a : Act) (w : World),
    (∀ j oj, ops[j]? = some oj → j ≠ i → listed.getD j true = false → (∀ e ∈ oj.after, Region.binds md e = true → e.on ≠ i) → oi.apart ops oj = true) →
    Lock md ops ex i L listed → i ∈ Region.ready md ops listed → YieldsIf P ops S oi v a → S w →
    qB4 P md ops Q S ex fuel (listed.setIfInBounds i true) (a.put oi.dst v) w → qB4 P md ops Q S ex (fuel + 1) listed a w := by
 intro fuel
 induction fuel with
 | zero =>
   intro listed a w _ _ hr hy hS H; refine ⟨fun h => (by rw [h] at hr; cases hr), fun j hj => ?_⟩
   by_cases hji : j = i
   ·subst hji; exact hy.wpOp hi hS ⟨fun _ => hS, H⟩
   ·have := ready_mono hj hji; rw [H.1] at this; cases this
 | succ fuel ih =>
   intro listed a w hfree hlock hr hy hS H; refine ⟨fun h => (by rw [h] at hr; cases hr), fun j hj => ?_⟩
   by_cases hji : j = i
   ·subst hji; exact hy.wpOp hi hS ⟨fun _ => hS, H⟩
   ·have h1 := H.2 j (ready_mono hj hji); obtain ⟨hjun, oj, hoj, hall⟩ := mem_ready.1 hj; have hiun := (mem_ready.1 hr).1; have hjs := hlock.keeps hiun hj; have hnot := qJt (j := j) hiun hall; have h2 := wpOp_putIf hoj (hfree j oj hoj hji hjun hnot) (fun cs b => hsel i oi cs b hi) (fun cs b => hsel j oj cs b hoj) hQ hy h1
    have hfree' : ∀ k ok, ops[k]? = some ok → k ≠ i → (listed.setIfInBounds j true).getD k true = false →
      (∀ e ∈ ok.after, Region.binds md e = true → e.on ≠ i) → oi.apart ops ok = true := fun k ok hk hki hun hno => by
     refine hfree k ok hk hki ?_ hno
     by_cases hjk : j = k
     ·subst hjk; exact hjun
     ·rw [getD_set_ne true hjk] at hun; exact hun
    refine wpOp_mono (fun a' w' h3 => ⟨fun _ => h3.2.1 hjs, ih (listed.setIfInBounds j true) a' w' hfree' (hlock.set (hlock.out hiun hj)) (ready_mono hr (Ne.symm hji)) h3.1 (h3.2.1 hjs) ?_⟩) h2; rw [Array.setIfInBounds_comm _ _ hji]; exact h3.2.2

theorem qQt {i : Nat} {oi : Oper} {v : Value} (hi : ops[i]? = some oi) (hsel : ∀ (j : Nat) (o : Oper) cs b, ops[j]? = some o → o.op ≠ .select cs b)
  (hQ : ∀ c a w, Q (.panic c) (a.put oi.dst v) w → Q (.panic c) a w) (hex : ex.contains i = true) :
  ∀ (fuel : Nat) (listed : Array Bool) (a : Act) (w : World),
    (∀ j oj, ops[j]? = some oj → j ≠ i → listed.getD j true = false → (∀ e ∈ oj.after, Region.binds md e = true → e.on ≠ i) → oi.apart ops oj = true) →
    i ∈ Region.ready md ops listed → YieldsIf P ops (fun _ => True) oi v a →
    qB4 P md ops Q S ex fuel (listed.setIfInBounds i true) (a.put oi.dst v) w → qB4 P md ops Q S ex (fuel + 1) listed a w := by
 intro fuel
 induction fuel with
 | zero =>
   intro listed a w _ hr hy H; refine ⟨fun h => (by rw [h] at hr; cases hr), fun j hj => ?_⟩
   by_cases hji : j = i
   ·subst hji; exact hy.wpOp hi trivial ⟨fun h => absurd (hex.symm.trans h) (by decide), H⟩
   ·have := ready_mono hj hji; rw [H.1] at this; cases this
 | succ fuel ih =>
   intro listed a w hfree hr hy H; refine ⟨fun h => (by rw [h] at hr; cases hr), fun j hj => ?_⟩
   by_cases hji : j = i
   ·subst hji; exact hy.wpOp hi trivial ⟨fun h => absurd (hex.symm.trans h) (by decide), H⟩
   ·have h1 := H.2 j (ready_mono hj hji); obtain ⟨hjun, oj, hoj, hall⟩ := mem_ready.1 hj; have hiun := (mem_ready.1 hr).1; have hnot := qJt (j := j) hiun hall; have h2 := wpOp_putIf hoj (hfree j oj hoj hji hjun hnot) (fun cs b => hsel i oi cs b hi) (fun cs b => hsel j oj cs b hoj) hQ hy h1
    have hfree' : ∀ k ok, ops[k]? = some ok → k ≠ i → (listed.setIfInBounds j true).getD k true = false →
      (∀ e ∈ ok.after, Region.binds md e = true → e.on ≠ i) → oi.apart ops ok = true := fun k ok hk hki hun hno => by
     refine hfree k ok hk hki ?_ hno
     by_cases hjk : j = k
     ·subst hjk; exact hjun
     ·rw [getD_set_ne true hjk] at hun; exact hun
    refine wpOp_mono (fun a' w' h3 => ⟨h3.2.1, ih (listed.setIfInBounds j true) a' w' hfree' (ready_mono hr (Ne.symm hji)) h3.1 ?_⟩) h2; rw [Array.setIfInBounds_comm _ _ hji]; exact h3.2.2

theorem qO4 {i : Nat} {oi : Oper} {v : Value} {fuel : Nat} {listed : Array Bool} {a : Act} {w : World} (hi : ops.toList[i]? = some oi)
  (hs : Region.noSelect ops = true) (hf : Region.free md ops listed i = true) (hr : (Region.ready md ops listed).contains i = true) (hl : qGY md ops ex listed i (depL md ops i) = true)
  (hQ : ∀ c a w, Q (.panic c) (a.put oi.dst v) w → Q (.panic c) a w) (hy : YieldsIf P ops S oi v a) (hS : S w)
  (h : qB4 P md ops Q S ex fuel (listed.setIfInBounds i true) (a.put oi.dst v) w) : qB4 P md ops Q S ex (fuel + 1) listed a w :=
 qNp (toL hi) (Region.noSelect_spec hs) hQ fuel listed a w (Region.free_spec (toL hi) hf) (qQ5 hl) (by simpa using hr) hy hS h
theorem qNG {i : Nat} {oi : Oper} {v : Value} {fuel : Nat} {listed : Array Bool} {a : Act} {w : World} (hi : ops.toList[i]? = some oi)
  (hs : Region.noSelect ops = true) (hf : Region.free md ops listed i = true) (hr : (Region.ready md ops listed).contains i = true) (hex : ex.contains i = true)
  (hQ : ∀ c a w, Q (.panic c) (a.put oi.dst v) w → Q (.panic c) a w) (hy : YieldsIf P ops (fun _ => True) oi v a)
  (h : qB4 P md ops Q S ex fuel (listed.setIfInBounds i true) (a.put oi.dst v) w) : qB4 P md ops Q S ex (fuel + 1) listed a w :=
 qQt (toL hi) (Region.noSelect_spec hs) hQ hex fuel listed a w (Region.free_spec (toL hi) hf) (by simpa using hr) hy h
theorem tJ {oi : Oper} {v : Value} {fuel : Nat} {listed : Array Bool} {a a' : Act} {w : World} (i : Nat) (hS : S w) (h : qB4 P md ops Q S ex fuel (listed.setIfInBounds i true) a' w)
 (hi : ops.toList[i]? = some oi := by rfl) (hs : Region.noSelect ops = true := by kernel_rfl) (hf : Region.free md ops listed i = true := by kernel_rfl) (hr : (Region.ready md ops listed).contains i = true := by kernel_rfl)
 (hl : qGY md ops ex listed i (depL md ops i) = true := by kernel_rfl) (hQ : ∀ c a w, Q (.panic c) (a.put oi.dst v) w → Q (.panic c) a w := by exact fun _ _ _ h => h)
 (hg : Region.wanted oi (yielded ops a.tmps) = true := by rfl) (hy : ∀ w', S w' → (execOp a.eval oi).run P w' = .ok (.value v) w' := by intro w' hSw; (try dsimp only at hSw); go_simp; try with_reducible rfl)
 (e : a.put oi.dst v = a' := by (try simp only [Act.put, sL]); try exact rfl) : qB4 P md ops Q S ex (fuel + 1) listed a w := by subst e; exact qO4 hi hs hf hr hl hQ (Or.inl ⟨hg, hy⟩) hS h
theorem tQ {oi : Oper} {v : Value} {fuel : Nat} {listed : Array Bool} {a a' : Act} {w : World} (i : Nat) (h : qB4 P md ops Q S ex fuel (listed.setIfInBounds i true) a' w)
 (hi : ops.toList[i]? = some oi := by rfl) (hs : Region.noSelect ops = true := by kernel_rfl) (hf : Region.free md ops listed i = true := by kernel_rfl) (hr : (Region.ready md ops listed).contains i = true := by kernel_rfl)
 (hex : ex.contains i = true := by kernel_rfl) (hQ : ∀ c a w, Q (.panic c) (a.put oi.dst v) w → Q (.panic c) a w := by exact fun _ _ _ h => h)
 (hg : Region.wanted oi (yielded ops a.tmps) = true := by rfl) (hy : ∀ w', True → (execOp a.eval oi).run P w' = .ok (.value v) w' := by intro w' _; go_simp; try with_reducible rfl)
 (e : a.put oi.dst v = a' := by (try simp only [Act.put, sL]); try exact rfl) : qB4 P md ops Q S ex (fuel + 1) listed a w := by subst e; exact qNG hi hs hf hr hex hQ (Or.inl ⟨hg, hy⟩) h

theorem nD {p q : Prop} (h : p) (e : ¬ p := by decide) : q := absurd h e
theorem oKq {p : Prop} {W K : Act → World → Prop} {a : Act} {w : World} (hK : Shut (∀ a w, (p → S w) → W a w → K a w)) (h : S w) (g : S w → W a w) : K a w := hK.out a w (fun _ => h) (g h)
theorem wKq {fuel : Nat} {listed : Array Bool} {a : Act} {w : World} (h : S w) (g : S w → qB4 P md ops Q S ex fuel listed a w) : qB4 P md ops Q S ex fuel listed a w := g h
theorem qA1 {i : Nat} {o : Oper} {fuel : Nat} {listed : Array Bool} {a : Act} {w : World} (ho : ops.toList[i]? = some o) (hr : Region.ready md ops listed = [i])
  (h : ∀ K' : Act → World → Prop, Shut (∀ a w, (ex.contains i = false → S w) → qB4 P md ops Q S ex fuel (listed.setIfInBounds i true) a w → K' a w) → if Region.wanted o (yielded ops a.tmps) = true then Oper.wp P o a w K' Q else K' (a.put o.dst undef) w) :
  qB4 P md ops Q S ex (fuel + 1) listed a w :=
 ⟨fun h0 => absurd (hr ▸ h0) (by simp), fun j hj => by
  rw [hr] at hj; obtain rfl : j = i := by simpa using hj
  exact wpOp_step (toL ho) (fun K' hK => h K' (fun a w hS hW => hK a w ⟨hS, hW⟩))⟩
theorem qDU {i j : Nat} {o o' : Oper} {fuel : Nat} {listed : Array Bool} {a : Act} {w : World} (ho : ops.toList[i]? = some o) (ho' : ops.toList[j]? = some o') (hr : Region.ready md ops listed = [i, j])
  (h : ∀ K' : Act → World → Prop, Shut (∀ a w, (ex.contains i = false → S w) → qB4 P md ops Q S ex fuel (listed.setIfInBounds i true) a w → K' a w) → if Region.wanted o (yielded ops a.tmps) = true then Oper.wp P o a w K' Q else K' (a.put o.dst undef) w)
  (h' : ∀ K' : Act → World → Prop, Shut (∀ a w, (ex.contains j = false → S w) → qB4 P md ops Q S ex fuel (listed.setIfInBounds j true) a w → K' a w) → if Region.wanted o' (yielded ops a.tmps) = true then Oper.wp P o' a w K' Q else K' (a.put o'.dst undef) w) :
  qB4 P md ops Q S ex (fuel + 1) listed a w :=
 ⟨fun h0 => absurd (hr ▸ h0) (by simp), fun k hk => by
  rw [hr] at hk; simp only [List.mem_cons, List.not_mem_nil, or_false] at hk; rcases hk with rfl | rfl
  ·exact wpOp_step (toL ho) (fun K' hK => h K' (fun a w hS hW => hK a w ⟨hS, hW⟩))
  ·exact wpOp_step (toL ho') (fun K' hK => h' K' (fun a w hS hW => hK a w ⟨hS, hW⟩))⟩
theorem qAT {listed : Array Bool} {a : Act} {w : World} (hr : Region.ready md ops listed = []) (h : Q .normal a w) :
  ∀ fuel, qB4 P md ops Q S ex fuel listed a w
 | 0 => ⟨hr, h⟩
 | _ + 1 => ⟨fun _ => h, by rw [hr]; simp⟩
theorem qAv {id : Nat} {a : Act} {w : World} (ex : List Nat) (hm : P.follows .mixedOrders = true)
  (h : qB4 P .any ops Q S ex ops.size (Array.replicate ops.size false) a w.drew) : (Code.region id ops true).wp P Q a w :=
 wp_region_any hm (qL3 _ _ _ _ h)
end
end
section
open Go
section
variable {P : Program} {ops : Array Oper} {Q : Exit → Act → World → Prop} {md : Region.Mode} {S : World → Prop} {ex : List Nat}
theorem qIX {i j k : Nat} {o o' o'' : Oper} {fuel : Nat} {listed : Array Bool} {a : Act} {w : World} (hr : Region.ready md ops listed = [i, j, k]) (ho : ops.toList[i]? = some o) (ho' : ops.toList[j]? = some o') (ho'' : ops.toList[k]? = some o'')
  (h : ∀ K' : Act → World → Prop, Shut (∀ a w, (ex.contains i = false → S w) → qB4 P md ops Q S ex fuel (listed.setIfInBounds i true) a w → K' a w) → if Region.wanted o (yielded ops a.tmps) = true then Oper.wp P o a w K' Q else K' (a.put o.dst undef) w)
  (h' : ∀ K' : Act → World → Prop, Shut (∀ a w, (ex.contains j = false → S w) → qB4 P md ops Q S ex fuel (listed.setIfInBounds j true) a w → K' a w) → if Region.wanted o' (yielded ops a.tmps) = true then Oper.wp P o' a w K' Q else K' (a.put o'.dst undef) w)
  (h'' : ∀ K' : Act → World → Prop, Shut (∀ a w, (ex.contains k = false → S w) → qB4 P md ops Q S ex fuel (listed.setIfInBounds k true) a w → K' a w) → if Region.wanted o'' (yielded ops a.tmps) = true then Oper.wp P o'' a w K' Q else K' (a.put o''.dst undef) w) :
  qB4 P md ops Q S ex (fuel + 1) listed a w :=
 ⟨fun h0 => absurd (hr ▸ h0) (by simp), fun l hl => by
  rw [hr] at hl; simp only [List.mem_cons, List.not_mem_nil, or_false] at hl; rcases hl with rfl | rfl | rfl
  ·exact wpOp_step (toL ho) (fun K' hK => h K' (fun a w hS hW => hK a w ⟨hS, hW⟩))
  ·exact wpOp_step (toL ho') (fun K' hK => h' K' (fun a w hS hW => hK a w ⟨hS, hW⟩))
  ·exact wpOp_step (toL ho'') (fun K' hK => h'' K' (fun a w hS hW => hK a w ⟨hS, hW⟩))⟩
end
end
end Go.Proofs.YtfpphfjlpgefaaaGreat
