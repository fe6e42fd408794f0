/- Power series modulo a number, as lists: sums, products, compositions. No program stands here. -/
import Derived.Test.YtflebfmkgmhccaaWv
set_option linter.unusedSimpArgs false
set_option linter.unusedVariables false
namespace Go.Proofs.Ytflebfmkgmhccaa

/-- A list told by a function. -/
def mk (n : Nat) (f : Nat → Int) : List Int := (List.range n).map f
theorem mk_len (n : Nat) (f : Nat → Int) : (mk n f).length = n := by simp [mk]
theorem mk_get {n : Nat} {f : Nat → Int} {k : Nat} (h : k < n) : (mk n f)[k]? = some (f k) := by simp [mk, h]
theorem mk_at {n : Nat} {f : Nat → Int} {k : Nat} (h : k < n) : at0 (mk n f) k = f k := by simp [at0, List.getD, mk_get h]
theorem mk_out {n : Nat} {f : Nat → Int} {k : Nat} (h : n ≤ k) : at0 (mk n f) k = 0 := by simp [at0, List.getD, mk, h]
theorem mk_ext {n : Nat} {f g : Nat → Int} (h : ∀ k, k < n → f k = g k) : mk n f = mk n g := by
  unfold mk; exact List.map_congr_left (fun k hk => h k (List.mem_range.1 hk))
theorem mk_set {n : Nat} {f : Nat → Int} {k : Nat} {x : Int} : (mk n f).set k x = mk n (fun j => if j = k then x else f j) := by
  apply List.ext_getElem?
  intro j
  simp only [List.getElem?_set, mk, List.length_map, List.length_range, List.getElem?_map]
  by_cases h : k = j
  · subst h
    by_cases hk : k < n <;> simp [hk]
  · have h' : ¬ j = k := fun e => h e.symm
    by_cases hk : j < n <;> simp [h, h', hk]
theorem mk_snoc (n : Nat) (f : Nat → Int) : mk (n + 1) f = mk n f ++ [f n] := by simp [mk, List.range_succ]
theorem eq_mk (xs : List Int) : xs = mk xs.length (at0 xs) := by
  apply List.ext_getElem?
  intro j
  by_cases h : j < xs.length
  · rw [mk_get h, at0_get h]; simp [h]
  · rw [List.getElem?_eq_none (by omega), List.getElem?_eq_none (by rw [mk_len]; omega)]
theorem at0_some {xs : List Int} {k : Nat} {x : Int} (h : xs[k]? = some x) : at0 xs k = x := by simp [at0, List.getD, h]
theorem at0_out {xs : List Int} {k : Nat} (h : xs.length ≤ k) : at0 xs k = 0 := by simp [at0, List.getD, h]
theorem some_at0 {xs : List Int} {k : Nat} (h : k < xs.length) : xs[k]? = some (at0 xs k) := by rw [at0_get h]; simp [h]
theorem mk_zero (n : Nat) : List.replicate n (0 : Int) = mk n (fun _ => 0) := by
  apply List.ext_getElem?
  intro j
  by_cases h : j < n
  · rw [mk_get h]; simp [h]
  · rw [List.getElem?_eq_none (by simp; omega), List.getElem?_eq_none (by rw [mk_len]; omega)]
theorem mem_mk {n : Nat} {f : Nat → Int} {x : Int} (h : x ∈ mk n f) : ∃ k, k < n ∧ x = f k := by
  unfold mk at h
  obtain ⟨k, hk, rfl⟩ := List.mem_map.1 h
  exact ⟨k, List.mem_range.1 hk, rfl⟩

/-- The coefficient k of a product. -/
def conv (a b : Nat → Int) (k : Nat) : Int := sumN (k + 1) (fun i => a i * b (k - i))
/-- What has been added up for the coefficient k when i rows, and j places of the next one, are done. -/
def convP (a b : Nat → Int) (i j k : Nat) : Int := sumN (min i (k + 1)) (fun i' => a i' * b (k - i')) + if i ≤ k ∧ k < i + j then a i * b (k - i) else 0

theorem convP_0 (a b : Nat → Int) (k : Nat) : convP a b 0 0 k = 0 := by simp [convP, sumN]
theorem convP_step (a b : Nat → Int) (i j k : Nat) : convP a b i (j + 1) k = convP a b i j k + if k = i + j then a i * b j else 0 := by
  unfold convP
  by_cases h : k = i + j
  · subst h
    rw [if_pos ⟨by omega, by omega⟩, if_neg (by omega), if_pos rfl, show i + j - i = j by omega]; omega
  · rw [if_neg h]
    by_cases h1 : i ≤ k ∧ k < i + j
    · rw [if_pos h1, if_pos ⟨h1.1, by omega⟩]; omega
    · rw [if_neg h1, if_neg (by omega)]; omega
theorem convP_row (a b : Nat → Int) (i j k : Nat) (h : i + j ≤ k → a i * b (k - i) = 0) : convP a b i j k = convP a b (i + 1) 0 k := by
  unfold convP
  rw [if_neg (show ¬ (i + 1 ≤ k ∧ k < i + 1 + 0) by omega)]
  by_cases h1 : i ≤ k
  · rw [show min (i + 1) (k + 1) = i + 1 by omega, show min i (k + 1) = i by omega]
    simp only [sumN]
    by_cases h2 : k < i + j
    · rw [if_pos ⟨h1, h2⟩]; omega
    · rw [if_neg (by omega), h (by omega)]; omega
  · rw [if_neg (by omega), show min i (k + 1) = k + 1 by omega, show min (i + 1) (k + 1) = k + 1 by omega]
theorem sumN_zero {n : Nat} {f : Nat → Int} (h : ∀ i, i < n → f i = 0) : sumN n f = 0 := by
  induction n with
  | zero => rfl
  | succ n ih => simp only [sumN]; rw [ih (fun i hi => h i (by omega)), h n (by omega)]; rfl
theorem sumN_split (n k : Nat) (f : Nat → Int) : sumN (n + k) f = sumN n f + sumN k (fun i => f (n + i)) := by
  induction k with
  | zero => simp [sumN]
  | succ k ih => rw [show n + (k + 1) = n + k + 1 by omega]; simp only [sumN]; rw [ih]; omega
theorem convP_all (a b : Nat → Int) (i k : Nat) (h : ∀ i', i ≤ i' → i' ≤ k → a i' = 0) : convP a b i 0 k = conv a b k := by
  unfold convP conv
  rw [if_neg (by omega)]
  by_cases h1 : k + 1 ≤ i
  · rw [show min i (k + 1) = k + 1 by omega]; omega
  · rw [show min i (k + 1) = i by omega]
    obtain ⟨d, hd⟩ : ∃ d, k + 1 = i + d := ⟨k + 1 - i, by omega⟩
    rw [hd, sumN_split, sumN_zero (n := d) (f := fun j => a (i + j) * b (k - (i + j))) (fun j hj => by rw [h (i + j) (by omega) (by omega)]; simp)]

/-- The list while a product is made. -/
def tmS (m : Int) (n : Nat) (a b : List Int) (i j : Nat) : List Int := mk n (fun k => convP (at0 a) (at0 b) i j k % m)
/-- The product of two lists of coefficients. -/
def timesL (m : Int) (n : Nat) (a b : List Int) : List Int := mk n (fun k => conv (at0 a) (at0 b) k % m)
theorem tmS_len (m : Int) (n : Nat) (a b : List Int) (i j : Nat) : (tmS m n a b i j).length = n := mk_len _ _
theorem timesL_len (m : Int) (n : Nat) (a b : List Int) : (timesL m n a b).length = n := mk_len _ _
theorem tmS_0 (m : Int) (n : Nat) (a b : List Int) : List.replicate n (0 : Int) = tmS m n a b 0 0 := by
  rw [mk_zero]; exact mk_ext (fun k _ => by rw [convP_0]; simp)
theorem tmS_get {m : Int} {n : Nat} {a b : List Int} {i j k : Nat} (h : k < n) : (tmS m n a b i j)[k]? = some (convP (at0 a) (at0 b) i j k % m) := mk_get h
theorem tmS_set {m : Int} {n : Nat} {a b : List Int} {i j : Nat} {x y : Int} (hx : at0 a i = x) (hy : at0 b j = y) :
    (tmS m n a b i j).set (i + j) ((convP (at0 a) (at0 b) i j (i + j) % m + x * y % m) % m) = tmS m n a b i (j + 1) := by
  subst hx hy
  unfold tmS
  rw [mk_set]
  refine mk_ext fun k hk => ?_
  rw [convP_step]
  by_cases h : k = i + j
  · subst h; simp only [if_true]; rw [← Int.add_emod]
  · rw [if_neg h, if_neg h, Int.add_zero]
/-- The same without the inner remainder. -/
theorem tmS_set' {m : Int} {n : Nat} {a b : List Int} {i j : Nat} {x y : Int} (hx : at0 a i = x) (hy : at0 b j = y) :
    (tmS m n a b i j).set (i + j) ((convP (at0 a) (at0 b) i j (i + j) % m + x * y) % m) = tmS m n a b i (j + 1) := by
  rw [← tmS_set hx hy, Int.add_emod (_ % m) (x * y) m, Int.emod_emod_of_dvd _ (Int.dvd_refl m), ← Int.add_emod]
/-- The same, written in one remainder. -/
theorem tmS_set2 {m : Int} {n : Nat} {a b : List Int} {i j : Nat} {x y : Int} (hx : at0 a i = x) (hy : at0 b j = y) :
    (tmS m n a b i j).set (i + j) ((convP (at0 a) (at0 b) i j (i + j) + x * y) % m) = tmS m n a b i (j + 1) := by
  rw [← tmS_set hx hy, ← Int.add_emod]
theorem tmS_row {m : Int} {n : Nat} {a b : List Int} {i j : Nat} (h : n ≤ i + j ∨ b.length ≤ j ∨ at0 a i = 0) : tmS m n a b i j = tmS m n a b (i + 1) 0 := by
  refine mk_ext fun k hk => ?_
  rw [convP_row _ _ _ _ _ (fun hij => ?_)]
  rcases h with h | h | h
  · omega
  · rw [at0_out (xs := b) (by omega), Int.mul_zero]
  · rw [h, Int.zero_mul]
theorem tmS_all {m : Int} {n : Nat} {a b : List Int} {i : Nat} (h : n ≤ i ∨ a.length ≤ i) : tmS m n a b i 0 = timesL m n a b := by
  refine mk_ext fun k hk => ?_
  rw [convP_all _ _ _ _ (fun i' h1 h2 => ?_)]
  rcases h with h | h
  · omega
  · exact at0_out (by omega)
theorem tmS_range {m : Int} (hm : 0 < m) {n : Nat} {a b : List Int} {i j : Nat} : ∀ x ∈ tmS m n a b i j, 0 ≤ x ∧ x < m := by
  intro x hx
  obtain ⟨k, _, rfl⟩ := mem_mk hx
  exact mod_lt' hm
theorem timesL_range {m : Int} (hm : 0 < m) {n : Nat} {a b : List Int} : ∀ x ∈ timesL m n a b, 0 ≤ x ∧ x < m := by
  intro x hx
  obtain ⟨k, _, rfl⟩ := mem_mk hx
  exact mod_lt' hm
theorem mem_at0 {xs : List Int} {k : Nat} (h : k < xs.length) : at0 xs k ∈ xs := by rw [at0_get h]; exact List.getElem_mem h
theorem at0_range {xs : List Int} {m : Int} (hm : 0 < m) (h : ∀ x ∈ xs, 0 ≤ x ∧ x < m) (k : Nat) : 0 ≤ at0 xs k ∧ at0 xs k < m := by
  by_cases hk : k < xs.length
  · exact h _ (mem_at0 hk)
  · rw [at0_out (by omega)]; omega

/-- The sum. -/
def addL (m : Int) (n : Nat) (a b : List Int) : List Int := mk n (fun k => (at0 a k + at0 b k) % m)
theorem addL_len (m : Int) (n : Nat) (a b : List Int) : (addL m n a b).length = n := mk_len _ _
/-- The sum while it is made: k places are done. -/
def addTo (m : Int) (n : Nat) (a b : List Int) (i : Nat) : List Int := mk n (fun k => if k < i then (at0 a k + at0 b k) % m else 0)
theorem addTo_len (m : Int) (n : Nat) (a b : List Int) (i : Nat) : (addTo m n a b i).length = n := mk_len _ _
theorem addTo_0 (m : Int) (n : Nat) (a b : List Int) : List.replicate n (0 : Int) = addTo m n a b 0 := by
  rw [mk_zero]; exact mk_ext (fun k _ => by simp)
theorem addTo_set {m : Int} {n : Nat} {a b : List Int} {i : Nat} {x y : Int} (hx : at0 a i = x) (hy : at0 b i = y) : (addTo m n a b i).set i ((x + y) % m) = addTo m n a b (i + 1) := by
  subst hx hy
  unfold addTo
  rw [mk_set]
  refine mk_ext fun k hk => ?_
  by_cases h : k = i
  · subst h; simp
  · rw [if_neg h]
    by_cases h1 : k < i
    · rw [if_pos h1, if_pos (by omega)]
    · rw [if_neg h1, if_neg (by omega)]
theorem addTo_all {m : Int} {n : Nat} {a b : List Int} {i : Nat} (h : n ≤ i) : addTo m n a b i = addL m n a b := mk_ext fun k hk => by rw [if_pos (by omega)]
theorem addL_range {m : Int} (hm : 0 < m) {n : Nat} {a b : List Int} : ∀ x ∈ addL m n a b, 0 ≤ x ∧ x < m := by
  intro x hx
  obtain ⟨k, _, rfl⟩ := mem_mk hx
  exact mod_lt' hm

/-- The product with a number. -/
def scaleL (m c : Int) (a : List Int) : List Int := a.map (fun x => c * x % m)
theorem scaleL_len (m c : Int) (a : List Int) : (scaleL m c a).length = a.length := by simp [scaleL]

/-- A number is added at 0. -/
def addc (m c : Int) (l : List Int) : List Int := l.set 0 ((at0 l 0 + c) % m)
theorem addc_len (m c : Int) (l : List Int) : (addc m c l).length = l.length := by simp [addc]
/-- A series of a series, in Horner's way: the coefficients cs from the first on. -/
def horn (m : Int) (n : Nat) (f : List Int) : List Int → List Int
  | [] => List.replicate n 0
  | c :: cs => addc m c (timesL m n (horn m n f cs) f)
theorem horn_len (m : Int) (n : Nat) (f cs : List Int) : (horn m n f cs).length = n := by
  cases cs with
  | nil => simp [horn]
  | cons c cs => simp [horn, addc_len, timesL_len]
theorem horn_range {m : Int} (hm : 0 < m) {n : Nat} {f cs : List Int} : ∀ x ∈ horn m n f cs, 0 ≤ x ∧ x < m := by
  cases cs with
  | nil => intro x hx; simp [horn] at hx; omega
  | cons c cs =>
    intro x hx
    simp only [horn, addc] at hx
    rcases List.mem_or_eq_of_mem_set hx with h | rfl
    · exact timesL_range hm x h
    · exact mod_lt' hm
theorem horn_drop {m : Int} {n : Nat} {f a : List Int} {i : Nat} {x : Int} (h : a[i]? = some x) : horn m n f (a.drop i) = addc m x (timesL m n (horn m n f (a.drop (i + 1))) f) := by
  obtain ⟨hl, rfl⟩ := List.getElem?_eq_some_iff.1 h
  rw [List.drop_eq_getElem_cons hl]; rfl
end Go.Proofs.Ytflebfmkgmhccaa
