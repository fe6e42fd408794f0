/- Vectors from ghosts, as both programs reckon them. No program stands here. -/
import Derived.Test.YtflebfmkgmhccaaPol
set_option linter.unusedSimpArgs false
set_option linter.unusedVariables false
namespace Go.Proofs.Ytflebfmkgmhccaa

/-- A list as a function: 0 behind its end. -/
def at0 (xs : List Int) (i : Nat) : Int := xs.getD i 0
theorem at0_get {xs : List Int} {i : Nat} (h : i < xs.length) : at0 xs i = xs[i] := by simp [at0, List.getD, h]
theorem at0_app {xs ys : List Int} {i : Nat} (h : i < xs.length) : at0 (xs ++ ys) i = at0 xs i := by simp [at0, List.getD, List.getElem?_append_left h]
theorem at0_last (xs : List Int) (y : Int) : at0 (xs ++ [y]) xs.length = y := by simp [at0, List.getD]

/-- The sum of the first k terms of a ghost that the components s make. -/
def below_sum (p : Nat) (s : List Int) (k : Nat) : Int := sumN k (fun i => (p : Int) ^ i * at0 s i ^ (p ^ (k - i)))
/-- The next component, from a ghost that is told modulo W. -/
def nextC (W : Int) (p : Nat) (s : List Int) (g : Int) : Int := (g - below_sum p s s.length) % W / (p : Int) ^ s.length
/-- The components, from ghosts that are told modulo W. -/
def fromL (W : Int) (p : Nat) (gs : List Int) : List Int := gs.foldl (fun s g => s ++ [nextC W p s g]) []

theorem fromL_snoc (W : Int) (p : Nat) (gs : List Int) (g : Int) : fromL W p (gs ++ [g]) = fromL W p gs ++ [nextC W p (fromL W p gs) g] := by simp [fromL]
theorem fromL_len (W : Int) (p : Nat) (gs : List Int) : (fromL W p gs).length = gs.length := by
  have : ∀ (l s : List Int), (l.foldl (fun s g => s ++ [nextC W p s g]) s).length = s.length + l.length := by
    intro l
    induction l with
    | nil => intro s; simp
    | cons g l ih => intro s; simp only [List.foldl_cons]; rw [ih]; simp; omega
  simpa [fromL] using this gs []
theorem fromL_take (W : Int) (p : Nat) (gs : List Int) {k : Nat} (hk : k < gs.length) : fromL W p (gs.take (k + 1)) = fromL W p (gs.take k) ++ [nextC W p (fromL W p (gs.take k)) gs[k]] := by
  rw [List.take_succ_eq_append_getElem hk, fromL_snoc]

/-- The ghosts of a vector, and sums over its components. -/
theorem gh_eq (p : Nat) (x : Nat → Int) (k : Nat) : gh p x k = sumN k (fun i => (p : Int) ^ i * x i ^ (p ^ (k - i))) + (p : Int) ^ k * x k := by
  show sumN k (fun i => (p : Int) ^ i * x i ^ (p ^ (k - i))) + (p : Int) ^ k * x k ^ (p ^ (k - k)) = _
  rw [Nat.sub_self, Nat.pow_zero, pow1]

theorem pow_cong {a b m : Int} (h : a % m = b % m) (k : Nat) : a ^ k % m = b ^ k % m := by rw [← pow_mod, h, pow_mod]

theorem mulp_cong {a b P V : Int} (h : a % V = b % V) : (P * a) % (P * V) = (P * b) % (P * V) := by
  have h1 : (a - b) % V = 0 := by rw [Int.sub_emod, h, ← Int.sub_emod]; simp
  obtain ⟨q, hq⟩ := Int.dvd_of_emod_eq_zero h1
  have : P * a = P * b + (P * V) * q := by grind
  rw [this, Int.add_mul_emod_self_left]

/-- What the components are, up to multiples. -/
theorem from_ok {p : Nat} (hp : P4 p) {M : Int} (hM : 0 < M) {e : Nat} (x : Nat → Int) (gs : List Int) (hn : gs.length ≤ e + 1)
    (hg : ∀ k (hk : k < gs.length), gs[k] % (M * (p : Int) ^ e) = gh p x k % (M * (p : Int) ^ e)) :
    ∀ i, i < gs.length → at0 (fromL (M * (p : Int) ^ e) p gs) i = x i % (M * (p : Int) ^ (e - i)) := by
  have hp1 : 1 ≤ (p : Int) := by rcases hp with rfl | rfl | rfl | rfl <;> decide
  -- for beginnings of the list
  have key : ∀ n, n ≤ gs.length → ∀ i, i < n → at0 (fromL (M * (p : Int) ^ e) p (gs.take n)) i = x i % (M * (p : Int) ^ (e - i)) := by
    intro n
    induction n with
    | zero => intro _ i hi; omega
    | succ n ih =>
      intro hn1 i hi
      have ih' := ih (by omega)
      rw [fromL_take _ _ _ (by omega : n < gs.length)]
      have hl : (fromL (M * (p : Int) ^ e) p (gs.take n)).length = n := by rw [fromL_len]; simp; omega
      by_cases hin : i < n
      · rw [at0_app (by omega)]; exact ih' i hin
      · obtain rfl : i = n := by omega
        generalize fromL (M * (p : Int) ^ e) p (gs.take i) = s at *
        subst hl
        rw [at0_last]
        unfold nextC
        have hW : M * (p : Int) ^ e = (p : Int) ^ s.length * (M * (p : Int) ^ (e - s.length)) := by
          have : (p : Int) ^ e = (p : Int) ^ s.length * (p : Int) ^ (e - s.length) := by rw [← Int.pow_add]; congr 1; omega
          rw [this]; grind
        have hb : below_sum p s s.length % (M * (p : Int) ^ e) = sumN s.length (fun i => (p : Int) ^ i * x i ^ (p ^ (s.length - i))) % (M * (p : Int) ^ e) := by
          unfold below_sum
          apply sumN_mod
          intro j hj
          have hWj : M * (p : Int) ^ e = (p : Int) ^ j * (M * (p : Int) ^ (e - j)) := by
            have : (p : Int) ^ e = (p : Int) ^ j * (p : Int) ^ (e - j) := by rw [← Int.pow_add]; congr 1; omega
            rw [this]; grind
          rw [hWj]
          apply mulp_cong
          apply pow_cong
          rw [ih' j hj]
          exact Int.emod_emod_of_dvd _ (Int.dvd_refl _)
        have h1 : (gs[s.length] - below_sum p s s.length) % (M * (p : Int) ^ e) = ((p : Int) ^ s.length * x s.length) % (M * (p : Int) ^ e) := by
          rw [Int.sub_emod, hg s.length (by omega), hb, ← Int.sub_emod, gh_eq]
          congr 1
          omega
        have hpp := pow_pos' hp1 s.length
        rw [h1, hW, Int.mul_emod_mul_of_pos _ _ (by omega), Int.mul_ediv_cancel_left _ (by omega)]
  intro i hi
  have := key gs.length (Nat.le_refl _) i hi
  rwa [List.take_length] at this

/-- The vector modulo M with the ghosts G, in the way of the reference. -/
def FL (p : Nat) (M : Int) (n : Nat) (G : Nat → Int) : List Int := (fromL (M * (p : Int) ^ (n - 1)) p ((List.range n).map G)).map (· % M)
theorem FL_len (p : Nat) (M : Int) (n : Nat) (G : Nat → Int) : (FL p M n G).length = n := by simp [FL, fromL_len]

theorem map_range_ext {n : Nat} {xs : List Int} (hl : xs.length = n) {f : Nat → Int} (h : ∀ i, i < n → at0 xs i = f i) : xs = (List.range n).map f := by
  apply List.ext_getElem
  · simp [hl]
  · intro i h1 h2
    rw [← at0_get h1, h i (by omega)]
    simp

/-- Any vector that is reckoned from these ghosts, modulo whatever multiple, is this one. -/
theorem from_eq {p : Nat} (hp : P4 p) {M : Int} (hM : 0 < M) {e : Nat} (x : Nat → Int) (gs : List Int) (hn : gs.length ≤ e + 1)
    (hg : ∀ k (hk : k < gs.length), gs[k] % (M * (p : Int) ^ e) = gh p x k % (M * (p : Int) ^ e)) :
    (fromL (M * (p : Int) ^ e) p gs).map (· % M) = (List.range gs.length).map (fun i => x i % M) := by
  apply map_range_ext
  · simp [fromL_len]
  · intro i hi
    have h1 := from_ok hp hM x gs hn hg i hi
    have hl : i < (fromL (M * (p : Int) ^ e) p gs).length := by rw [fromL_len]; exact hi
    rw [at0_get (by simpa using hl), List.getElem_map, ← at0_get hl, h1]
    exact Int.emod_emod_of_dvd _ ⟨(p : Int) ^ (e - i), rfl⟩

theorem FL_eq {p : Nat} (hp : P4 p) {M : Int} (hM : 0 < M) {n : Nat} (G : Nat → Int) (x : Nat → Int) (h : ∀ k, k < n → gh p x k = G k) : FL p M n G = (List.range n).map (fun i => x i % M) := by
  have := from_eq hp hM (e := n - 1) x ((List.range n).map G) (by simp; omega) (fun k hk => by simp at hk ⊢; rw [h k hk])
  simpa [FL] using this

/-- The wide way: ghosts told modulo M p^e. -/
theorem wide_eq {p : Nat} (hp : P4 p) {M : Int} (hM : 0 < M) {e : Nat} (G : Nat → Int) (gs : List Int) (hn : gs.length ≤ e + 1) (hx : ∃ x, ∀ k, k < gs.length → gh p x k = G k)
    (hg : ∀ k (hk : k < gs.length), gs[k] % (M * (p : Int) ^ e) = G k % (M * (p : Int) ^ e)) :
    (fromL (M * (p : Int) ^ e) p gs).map (· % M) = FL p M gs.length G := by
  obtain ⟨x, hx⟩ := hx
  rw [FL_eq hp hM G x hx]
  exact from_eq hp hM x gs hn (fun k hk => by rw [hg k hk, hx k hk])

/-- Operations on ghosts that come from polynomials answer for the classes modulo M alone. -/
theorem op_cong {p : Nat} (hp : P4 p) {M : Int} {F : Nat → (Nat → Int) → Int} (h : Gs p F) (n : Nat) {r s : Nat → Int} (hrs : ∀ i, r i % M = s i % M) {x y : Nat → Int}
    (hx : ∀ k, k < n → gh p x k = F k r) (hy : ∀ k, k < n → gh p y k = F k s) : ∀ i, i < n → x i % M = y i % M := by
  obtain ⟨X, hX, e⟩ := dwork hp h n
  intro i hi
  rw [gh_inj hp n (fun k hk => (hx k hk).trans (e k hk r).symm) i hi, gh_inj hp n (fun k hk => (hy k hk).trans (e k hk s).symm) i hi]
  exact (hX i).congr hrs

/-- There is a vector with such ghosts. -/
theorem op_ex {p : Nat} (hp : P4 p) {F : Nat → (Nat → Int) → Int} (h : Gs p F) (n : Nat) (r : Nat → Int) : ∃ x : Nat → Int, ∀ k, k < n → gh p x k = F k r := by
  obtain ⟨X, _, e⟩ := dwork hp h n
  exact ⟨fun i => X i r, fun k hk => e k hk r⟩

end Go.Proofs.Ytflebfmkgmhccaa
