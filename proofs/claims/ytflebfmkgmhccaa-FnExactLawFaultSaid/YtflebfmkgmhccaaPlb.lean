/- Products of planes modulo a number, as tables. No program stands here. -/
import Derived.Test.YtflebfmkgmhccaaPla
set_option linter.unusedSimpArgs false
set_option linter.unusedVariables false
namespace Go.Proofs.Ytflebfmkgmhccaa

theorem sumN_ext {n : Nat} {f g : Nat → Int} (h : ∀ i, i < n → f i = g i) : sumN n f = sumN n g := sumN_congr h
theorem sumN_cut {n k : Nat} {f : Nat → Int} (hk : k ≤ n) (h : ∀ i, k ≤ i → i < n → f i = 0) : sumN n f = sumN k f := by
  obtain ⟨d, rfl⟩ : ∃ d, n = k + d := ⟨n - k, by omega⟩
  rw [sumN_split, sumN_zero (n := d) (f := fun i => f (k + i)) (fun i hi => h (k + i) (by omega) (by omega))]; omega

/-- The coefficient of x^p y^q of a product. -/
def conv2 (a b : Nat → Nat → Int) (p q : Nat) : Int := sumN (p + 1) (fun i => sumN (q + 1) (fun j => a i j * b (p - i) (q - j)))
def c2F (a b : Nat → Nat → Int) (p q i j : Nat) : Int := if i ≤ p ∧ j ≤ q then a i j * b (p - i) (q - j) else 0
/-- What has been added up at x^p y^q when the rows before i are done, and the places before j, and of the place j the rows before k, and the places before l. -/
def c2P (n : Nat) (a b : Nat → Nat → Int) (i j k l p q : Nat) : Int :=
  sumN i (fun i' => sumN n (c2F a b p q i')) + sumN j (c2F a b p q i) + if (i ≤ p ∧ j ≤ q) ∧ (p - i < k ∨ (p - i = k ∧ q - j < l)) then a i j * b (p - i) (q - j) else 0

theorem c2P_0 (n : Nat) (a b : Nat → Nat → Int) (p q : Nat) : c2P n a b 0 0 0 0 p q = 0 := by
  unfold c2P; simp [sumN]
theorem c2P_step (n : Nat) (a b : Nat → Nat → Int) (i j k l p q : Nat) : c2P n a b i j k (l + 1) p q = c2P n a b i j k l p q + if p = i + k ∧ q = j + l then a i j * b k l else 0 := by
  unfold c2P
  by_cases h : p = i + k ∧ q = j + l
  · obtain ⟨rfl, rfl⟩ := h
    rw [if_pos (by omega), if_neg (by omega), if_pos ⟨rfl, rfl⟩, show i + k - i = k by omega, show j + l - j = l by omega]; omega
  · rw [if_neg h]
    by_cases h1 : (i ≤ p ∧ j ≤ q) ∧ (p - i < k ∨ (p - i = k ∧ q - j < l))
    · rw [if_pos h1, if_pos (by omega)]; omega
    · rw [if_neg h1, if_neg (by omega)]; omega
theorem c2P_row {n : Nat} (a b : Nat → Nat → Int) {i j k l p q : Nat} (hn : n ≤ i + j + k + l) (h : p + q < n) : c2P n a b i j k l p q = c2P n a b i j (k + 1) 0 p q := by
  unfold c2P
  congr 1
  by_cases h1 : (i ≤ p ∧ j ≤ q) ∧ (p - i < k ∨ (p - i = k ∧ q - j < l))
  · rw [if_pos h1, if_pos (by omega)]
  · rw [if_neg h1, if_neg (by omega)]
theorem c2P_place {n : Nat} (a b : Nat → Nat → Int) {i j k p q : Nat} (hn : n ≤ i + j + k ∨ a i j = 0) (h : p + q < n) : c2P n a b i j k 0 p q = c2P n a b i (j + 1) 0 0 p q := by
  unfold c2P
  rw [if_neg (show ¬ ((i ≤ p ∧ j + 1 ≤ q) ∧ (p - i < 0 ∨ (p - i = 0 ∧ q - (j + 1) < 0))) by omega)]
  simp only [sumN]
  have : (if (i ≤ p ∧ j ≤ q) ∧ (p - i < k ∨ (p - i = k ∧ q - j < 0)) then a i j * b (p - i) (q - j) else 0) = c2F a b p q i j := by
    unfold c2F
    by_cases h0 : a i j = 0
    · rw [h0]; simp
    · have hn' : n ≤ i + j + k := by rcases hn with h | h; exact h; exact absurd h h0
      by_cases h1 : i ≤ p ∧ j ≤ q
      · rw [if_pos (by omega), if_pos h1]
      · rw [if_neg (by omega), if_neg h1]
  rw [this]; omega
theorem c2P_line {n : Nat} (a b : Nat → Nat → Int) {i p q : Nat} (h : p + q < n) {j : Nat} (hj : j = n - i) : c2P n a b i j 0 0 p q = c2P n a b (i + 1) 0 0 0 p q := by
  subst hj
  unfold c2P
  rw [if_neg (by omega), if_neg (by omega)]
  simp only [sumN]
  rw [sumN_cut (n := n) (k := n - i) (f := c2F a b p q i) (by omega) (fun j h1 h2 => by unfold c2F; rw [if_neg (by omega)])]
  omega
theorem c2P_all {n : Nat} (a b : Nat → Nat → Int) {p q : Nat} (h : p + q < n) : c2P n a b n 0 0 0 p q = conv2 a b p q := by
  unfold c2P conv2
  rw [if_neg (by omega), show sumN 0 (c2F a b p q n) = 0 from rfl]
  rw [sumN_cut (n := n) (k := p + 1) (by omega) (fun i h1 h2 => sumN_zero (fun j hj => by unfold c2F; rw [if_neg (by omega)]))]
  rw [sumN_ext (n := p + 1) (g := fun i => sumN (q + 1) (fun j => a i j * b (p - i) (q - j))) (fun i hi => by
    rw [sumN_cut (n := n) (k := q + 1) (by omega) (fun j h1 h2 => by unfold c2F; rw [if_neg (by omega)])]
    exact sumN_ext (fun j hj => by unfold c2F; rw [if_pos (by omega)]))]
  omega

/-- The table while a product is made. -/
def tmT (m : Int) (n : Nat) (a b : List (List Int)) (i j k l : Nat) : List (List Int) := tri n (fun p q => c2P n (atT a) (atT b) i j k l p q % m)
/-- The product of two tables. -/
def timesT (m : Int) (n : Nat) (a b : List (List Int)) : List (List Int) := tri n (fun p q => conv2 (atT a) (atT b) p q % m)
theorem tmT_len (m : Int) (n : Nat) (a b : List (List Int)) (i j k l : Nat) : (tmT m n a b i j k l).length = n := tri_len _ _
theorem timesT_len (m : Int) (n : Nat) (a b : List (List Int)) : (timesT m n a b).length = n := tri_len _ _
theorem tmT_0 (m : Int) (n : Nat) (a b : List (List Int)) : zeroT n = tmT m n a b 0 0 0 0 := tri_ext fun p q _ => by rw [c2P_0]; simp
def tmTr (m : Int) (n : Nat) (a b : List (List Int)) (i j k l r : Nat) : List Int := mk (n - r) (fun q => c2P n (atT a) (atT b) i j k l r q % m)
theorem tmTr_len (m : Int) (n : Nat) (a b : List (List Int)) (i j k l r : Nat) : (tmTr m n a b i j k l r).length = n - r := mk_len _ _
theorem tmT_row' {m : Int} {n : Nat} {a b : List (List Int)} {i j k l r : Nat} (h : r < n) : (tmT m n a b i j k l)[r]? = some (tmTr m n a b i j k l r) := tri_get h
theorem tmTr_get {m : Int} {n : Nat} {a b : List (List Int)} {i j k l r q : Nat} (h : r + q < n) : (tmTr m n a b i j k l r)[q]? = some (c2P n (atT a) (atT b) i j k l r q % m) := mk_get (by omega)
theorem tmT_set {m : Int} {n : Nat} {a b : List (List Int)} {i j k l : Nat} (h : i + j + k + l < n) :
    (tmT m n a b i j k l).set (i + k) ((tmTr m n a b i j k l (i + k)).set (j + l) ((c2P n (atT a) (atT b) i j k l (i + k) (j + l) + atT a i j * atT b k l) % m)) = tmT m n a b i j k (l + 1) := by
  unfold tmT tmTr
  rw [tri_set (f := fun p q => c2P n (atT a) (atT b) i j k l p q % m) (by omega)]
  refine tri_ext fun p q _ => ?_
  rw [c2P_step]
  by_cases h1 : p = i + k ∧ q = j + l
  · rw [if_pos h1, if_pos h1]
    obtain ⟨rfl, rfl⟩ := h1; rfl
  · rw [if_neg h1, if_neg h1, Int.add_zero]
theorem tmT_row {m : Int} {n : Nat} {a b : List (List Int)} {i j k l : Nat} (hn : n ≤ i + j + k + l) : tmT m n a b i j k l = tmT m n a b i j (k + 1) 0 := tri_ext fun p q h => by rw [c2P_row _ _ hn h]
theorem tmT_place {m : Int} {n : Nat} {a b : List (List Int)} {i j k : Nat} (hn : n ≤ i + j + k ∨ atT a i j = 0) : tmT m n a b i j k 0 = tmT m n a b i (j + 1) 0 0 := tri_ext fun p q h => by rw [c2P_place _ _ hn h]
theorem tmT_line {m : Int} {n : Nat} {a b : List (List Int)} {i j : Nat} (hj : j = n - i) : tmT m n a b i j 0 0 = tmT m n a b (i + 1) 0 0 0 := tri_ext fun p q h => by rw [c2P_line _ _ h hj]
theorem tmT_all {m : Int} {n : Nat} {a b : List (List Int)} : tmT m n a b n 0 0 0 = timesT m n a b := tri_ext fun p q h => by rw [c2P_all _ _ h]
/-- What a table of a plane is. -/
def PlaT (m : Int) (n : Nat) (t : List (List Int)) : Prop := t.length = n ∧ ∀ i (hi : i < t.length), t[i].length = t.length - i ∧ ∀ x ∈ t[i], 0 ≤ x ∧ x < m
theorem tri_ok {m : Int} {n : Nat} {f : Nat → Nat → Int} (h : ∀ i j, i + j < n → 0 ≤ f i j ∧ f i j < m) : PlaT m n (tri n f) := by
  refine ⟨tri_len _ _, fun i hi => ?_⟩
  rw [tri_len] at hi
  have e : (tri n f)[i]'(by rw [tri_len]; exact hi) = mk (n - i) (f i) := by
    have := tri_get (f := f) hi
    rw [List.getElem?_eq_getElem (by rw [tri_len]; exact hi)] at this
    exact Option.some.inj this
  rw [e, mk_len, tri_len]
  refine ⟨rfl, fun x hx => ?_⟩
  obtain ⟨k, hk, rfl⟩ := mem_mk hx
  exact h i k (by omega)
theorem zeroT_ok {m : Int} (hm : 0 < m) (n : Nat) : PlaT m n (zeroT n) := tri_ok fun i j _ => by omega
theorem timesT_ok {m : Int} (hm : 0 < m) (n : Nat) (a b : List (List Int)) : PlaT m n (timesT m n a b) := tri_ok fun _ _ _ => mod_lt' hm
theorem addT_ok {m : Int} (hm : 0 < m) (n : Nat) (a b : List (List Int)) : PlaT m n (addT m n a b) := tri_ok fun _ _ _ => mod_lt' hm
end Go.Proofs.Ytflebfmkgmhccaa
