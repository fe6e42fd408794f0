/- Lemmas of LzP. -/
import Derived.Test.YtoednonijmkbjaaGreatVG18
import Derived.Test.YtoednonijmkbjaaGreatVG20
import Derived.Test.YtoednonijmkbjaaGreatVG1
set_option linter.unusedSimpArgs false
set_option linter.unusedVariables false
namespace Go.Proofs.YtoednonijmkbjaaGreat
open Go.RowKit

theorem fitTo_of {m : Int} {c d : Nat → Int} {x : Int} : ∀ {k : Nat}, (∀ i, i < k → d i % m = x * (c i % m) % m) → fitTo m c d x k = true
  | 0, _ => rfl
  | k + 1, h => by
    show (fitTo m c d x k && (d k % m == x * (c k % m) % m)) = true
    rw [fitTo_of fun i hi => h i (by omega), h k (by omega)]
    simp
theorem fitTo_t {m : Int} {c d : Nat → Int} {x : Int} : ∀ {k : Nat}, fitTo m c d x k = true → ∀ i, i < k → d i % m = x * (c i % m) % m
  | 0, _, i, hi => by omega
  | k + 1, h, i, hi => by
    have h' : (fitTo m c d x k && (d k % m == x * (c k % m) % m)) = true := h
    rw [Bool.and_eq_true, beq_iff_eq] at h'
    by_cases e : i = k
    · subst e; exact h'.2
    · exact fitTo_t h'.1 i (by omega)
theorem fitTo_congr {m : Int} {c d d' : Nat → Int} {x : Int} : ∀ {k : Nat}, (∀ i, i < k → d i = d' i) → fitTo m c d x k = fitTo m c d' x k
  | 0, _ => rfl
  | k + 1, h => by
    show (fitTo m c d x k && (d k % m == _)) = (fitTo m c d' x k && (d' k % m == _))
    rw [fitTo_congr fun i hi => h i (by omega), h k (by omega)]
theorem facTo_congr {m : Int} {c d d' : Nat → Int} {n : Nat} (h : ∀ i, i < n → d i = d' i) : ∀ K, facTo m c d n K = facTo m c d' n K
  | 0 => rfl
  | K + 1 => by
    show (if 0 ≤ facTo m c d n K then facTo m c d n K else if fitTo m c d K n = true then (K : Int) else -1) = (if 0 ≤ facTo m c d' n K then facTo m c d' n K else if fitTo m c d' K n = true then (K : Int) else -1)
    rw [facTo_congr h K, fitTo_congr h]
theorem facP_congr {m : Int} {c d d' : Nat → Int} {n : Nat} (h : ∀ i, i < n → d i = d' i) : facP m c d n = facP m c d' n := by
  unfold facP; rw [facTo_congr h]
theorem facTo_pos {m : Int} {c d : Nat → Int} {n k K : Nat} (hk : k < K) (hf : fitTo m c d k n = true) : 0 ≤ facTo m c d n K := by
  by_cases h : 0 ≤ facTo m c d n k
  · have := facTo_keep h (K - k)
    rw [show k + (K - k) = K by omega] at this
    omega
  · have h1 : facTo m c d n k = -1 := by
      rcases facTo_cases m c d n k with e | ⟨j, _, e, _⟩
      · exact e
      · omega
    have := facTo_end h1 hf hk
    omega
theorem facP_eq {m : Int} {c d : Nat → Int} {n : Nat} (h : 0 ≤ facTo m c d n m.toNat) : facP m c d n = facTo m c d n m.toNat := by
  unfold facP; rw [if_pos h]
theorem fac_ex {m : Int} (hm : 2 ≤ m) {c d : Nat → Int} {n : Nat} {x : Int} (h : ∀ i, i < n → d i % m = x * c i % m) : 0 ≤ facTo m c d n m.toNat := by
  have hx := mod_lt' (a := x) (show 0 < m by omega)
  obtain ⟨X, hX⟩ : ∃ X : Nat, x % m = X := ⟨(x % m).toNat, by omega⟩
  refine facTo_pos (k := X) (by omega) (fitTo_of fun i hi => ?_)
  rw [h i hi, ← hX]
  exact emod_congr_mul (mod_self_mod _ _).symm (mod_self_mod _ _).symm
theorem agrA_at {t s : List (List Int)} {d : Nat} (h : agrA t s d = true) {i : Nat} (hi : i ≤ d) : atT t i (d - i) = atT s i (d - i) := by
  unfold agrA at h
  have := List.all_eq_true.1 h i (List.mem_range.2 (by omega))
  simpa using this
theorem agrK_below {t s : List (List Int)} {n d : Nat} (h : d < agrK t s n) : agrA t s d = true := by
  have hn := agrK_le t s n
  have key : ∀ e, e ≤ d → agrA t s e = true := by
    intro e
    induction e using Nat.strongRecOn with
    | _ e ih =>
      intro he
      cases hx : agrA t s e
      · have := agrK_at (show e < n by omega) (fun d' hd => ih d' hd (by omega)) hx
        omega
      · rfl
  exact key d (Nat.le_refl _)
theorem gap_ex {m : Int} (hm : 2 ≤ m) {t s : List (List Int)} {n : Nat} (h2 : 2 ≤ n) (hn : n ≤ 10) (LF : Lw m (n + 1) (atT t)) (LG : Lw m (n + 1) (atT s)) (he : ∀ i j, i + j < n → atT t i j % m = atT s i j % m) :
    0 ≤ facTo m (laz n) (fun i => (atT s i (n - i) - atT t i (n - i)) % m) (n + 1) m.toNat := by
  obtain ⟨x, hx⟩ := laws_ex h2 hn LF LG he
  exact fac_ex hm (x := x) fun i hi => by
    show (atT s i (n - i) - atT t i (n - i)) % m % m = _
    rw [mod_self_mod]
    exact hx i (by omega)
theorem agrK_eqv {m : Int} {t s : List (List Int)} {n k : Nat} (h : k ≤ agrK t s n) : ∀ i j, i + j < k → atT t i j % m = atT s i j % m := by
  intro i j hij
  have := agrA_at (agrK_below (n := n) (show i + j < agrK t s n by omega)) (show i ≤ i + j by omega)
  rw [show i + j - i = j by omega] at this
  rw [this]
end Go.Proofs.YtoednonijmkbjaaGreat
