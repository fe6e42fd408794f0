/- Planes modulo a number, as tables. No program stands here. -/
import Derived.Test.YtflebfmkgmhccaaSer
set_option linter.unusedSimpArgs false
set_option linter.unusedVariables false
namespace Go.Proofs.Ytflebfmkgmhccaa

/-- A triangle told by a function: row i has n - i places. -/
def tri (n : Nat) (f : Nat → Nat → Int) : List (List Int) := (List.range n).map (fun i => mk (n - i) (f i))
theorem tri_len (n : Nat) (f : Nat → Nat → Int) : (tri n f).length = n := by simp [tri]
theorem tri_get {n : Nat} {f : Nat → Nat → Int} {i : Nat} (h : i < n) : (tri n f)[i]? = some (mk (n - i) (f i)) := by simp [tri, h]
theorem tri_ext {n : Nat} {f g : Nat → Nat → Int} (h : ∀ i j, i + j < n → f i j = g i j) : tri n f = tri n g := by
  unfold tri
  refine List.map_congr_left fun i hi => mk_ext fun j hj => h i j (by have := List.mem_range.1 hi; omega)
theorem tri_set {n : Nat} {f : Nat → Nat → Int} {i j : Nat} {x : Int} (h : i + j < n) : (tri n f).set i ((mk (n - i) (f i)).set j x) = tri n (fun a b => if a = i ∧ b = j then x else f a b) := by
  apply List.ext_getElem?
  intro a
  rw [List.getElem?_set]
  by_cases e : i = a
  · subst e
    rw [if_pos rfl, tri_len, if_pos (by omega), tri_get (by omega), mk_set]
    congr 1
    exact mk_ext fun b hb => by by_cases e : b = j <;> simp [e]
  · rw [if_neg e]
    by_cases ha : a < n
    · rw [tri_get ha, tri_get ha]
      congr 1
      exact mk_ext fun b hb => by rw [if_neg (fun h => e h.1.symm)]
    · rw [List.getElem?_eq_none (by rw [tri_len]; omega), List.getElem?_eq_none (by rw [tri_len]; omega)]
/-- A number of a table. -/
def atT (t : List (List Int)) (i j : Nat) : Int := at0 (t.getD i []) j
theorem atT_tri {n : Nat} {f : Nat → Nat → Int} {i j : Nat} (h : i + j < n) : atT (tri n f) i j = f i j := by
  unfold atT List.getD
  rw [tri_get (by omega)]
  exact mk_at (by omega)
theorem atT_row {t : List (List Int)} {i j : Nat} (h : i < t.length) : atT t i j = at0 t[i] j := by simp [atT, List.getD, h]
theorem tri_eq {t : List (List Int)} {n : Nat} (hl : t.length = n) (hr : ∀ i (hi : i < t.length), t[i].length = n - i) : t = tri n (atT t) := by
  subst hl
  apply List.ext_getElem?
  intro i
  by_cases hi : i < t.length
  · rw [tri_get hi]
    rw [List.getElem?_eq_getElem hi]
    congr 1
    rw [← hr i hi]
    conv => lhs; rw [eq_mk t[i]]
    exact mk_ext fun j _ => (atT_row hi).symm
  · rw [List.getElem?_eq_none (by omega), List.getElem?_eq_none (by rw [tri_len]; omega)]
theorem tri_snoc_rows (n k : Nat) (f : Nat → Nat → Int) : (List.range (k + 1)).map (fun i => mk (n - i) (f i)) = (List.range k).map (fun i => mk (n - i) (f i)) ++ [mk (n - k) (f k)] := by
  rw [List.range_succ, List.map_append]; rfl
def zeroRows (n k : Nat) : List (List Int) := (List.range k).map (fun i => List.replicate (n - i) 0)
theorem zeroRows_len (n k : Nat) : (zeroRows n k).length = k := by simp [zeroRows]
theorem zeroRows_snoc (n k : Nat) : zeroRows n (k + 1) = zeroRows n k ++ [List.replicate (n - k) 0] := by simp [zeroRows, List.range_succ]
def zeroT (n : Nat) : List (List Int) := tri n (fun _ _ => 0)
theorem zeroRows_all (n : Nat) : zeroRows n n = zeroT n := by
  unfold zeroRows zeroT tri
  exact List.map_congr_left fun i _ => mk_zero _
theorem zeroT_len (n : Nat) : (zeroT n).length = n := tri_len _ _
/-- The sum of tables. -/
def addT (m : Int) (n : Nat) (a b : List (List Int)) : List (List Int) := tri n (fun i j => (atT a i j + atT b i j) % m)
theorem addT_len (m : Int) (n : Nat) (a b : List (List Int)) : (addT m n a b).length = n := tri_len _ _
end Go.Proofs.Ytflebfmkgmhccaa
