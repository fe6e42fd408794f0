/- Lemmas of WeiI. -/
import Derived.Test.YtmmneicblcjkjaaQPlaN2
import Derived.Test.YtmmneicblcjkjaaQWeiC
import Derived.Test.YtmmneicblcjkjaaQAx
import Derived.Test.YtmmneicblcjkjaaQPlaE
import Derived.Test.YtmmneicblcjkjaaQSRef
import Derived.Test.YtmmneicblcjkjaaQSRev
set_option linter.unusedSimpArgs false
set_option linter.unusedVariables false
namespace Go.Proofs.Ytmmneicblcjkjaa
open Go.RowKit

def lnTo (n : Nat) (W : List Int) (k i : Nat) : List (List Int) := tri n (fun a b => if a + b + 1 < k ∨ (a + b + 1 = k ∧ a < i) then at0 W (a + b + 1) else 0)
def lnRow (n : Nat) (W : List Int) (k i j : Nat) : List Int := mk (n - j) (fun b => if j + b + 1 < k ∨ (j + b + 1 = k ∧ j < i) then at0 W (j + b + 1) else 0)
theorem lnTo_0 (n : Nat) (W : List Int) : zeroT n = lnTo n W 1 0 := tri_ext fun i j _ => by rw [if_neg (by omega)]
theorem lnTo_get {n : Nat} {W : List Int} {k i j : Nat} (h : j < n) : (lnTo n W k i)[j]? = some (lnRow n W k i j) := tri_get h
theorem lnRow_len (n : Nat) (W : List Int) (k i j : Nat) : (lnRow n W k i j).length = n - j := mk_len _ _
theorem lnTo_set {n : Nat} {W : List Int} {k i : Nat} (h1 : 1 ≤ k) (hi : i < k) (hk : k ≤ n) : (lnTo n W k i).set i ((lnRow n W k i i).set (k - 1 - i) (at0 W k)) = lnTo n W k (i + 1) := by
  unfold lnTo lnRow
  rw [tri_set (f := fun a b => if a + b + 1 < k ∨ (a + b + 1 = k ∧ a < i) then at0 W (a + b + 1) else 0) (by omega)]
  refine tri_ext fun a b _ => ?_
  by_cases h : a = i ∧ b = k - 1 - i
  · rw [if_pos h, if_pos (by omega), show a + b + 1 = k by omega]
  · rw [if_neg h]
    by_cases h2 : a + b + 1 < k ∨ (a + b + 1 = k ∧ a < i)
    · rw [if_pos h2, if_pos (by omega)]
    · rw [if_neg h2, if_neg (by omega)]
theorem lnTo_row (n : Nat) (W : List Int) (k : Nat) : lnTo n W k k = lnTo n W (k + 1) 0 := tri_ext fun a b _ => by
  by_cases h : a + b + 1 < k ∨ (a + b + 1 = k ∧ a < k)
  · rw [if_pos h, if_pos (by omega)]
  · rw [if_neg h, if_neg (by omega)]
theorem lnTo_all {m : Int} (hm : 0 < m) {n : Nat} {W : List Int} (hW : ∀ x ∈ W, 0 ≤ x ∧ x < m) : lnTo n W (n + 1) 0 = linT m n W := tri_ext fun a b h => by
  have := at0_range hm hW (a + b + 1)
  rw [if_pos (by omega), Int.emod_eq_of_lt this.1 this.2]
theorem xT_set (n : Nat) (h : 2 ≤ n) : (zeroT n).set 1 ((mk (n - 1) (fun _ => 0)).set 0 1) = xT n := by
  unfold zeroT
  rw [tri_set (f := fun _ _ => 0) (by omega)]
  rfl
theorem turn_x {m : Int} (hm : 2 ≤ m) (n : Nat) : turnT m (xT n) = yT n := by
  unfold turnT
  rw [show (xT n).length = n from tri_len _ _]
  refine tri_ext fun i j h => ?_
  unfold xT
  rw [atT_tri (by omega)]
  by_cases hh : j = 1 ∧ i = 0
  · rw [if_pos hh, if_pos ⟨hh.2, hh.1⟩, Int.emod_eq_of_lt (by omega) (by omega)]
  · rw [if_neg hh, if_neg (fun e => hh ⟨e.2, e.1⟩), Int.zero_emod]
theorem axT_take {m : Int} (hm : 0 < m) {n : Nat} {W : List Int} (hW : ∀ x ∈ W, 0 ≤ x ∧ x < m) : axT n W 0 = clnT m n (W.take n) := tri_ext fun i j hij => by
  have := at0_range hm hW i
  have e : at0 (W.take n) i = at0 W i := by unfold at0 List.getD; rw [List.getElem?_take, if_pos (by omega)]
  rw [if_pos rfl, e]
  by_cases hj : j = 0
  · rw [if_pos hj, Int.emod_eq_of_lt this.1 this.2]
  · rw [if_neg hj, Int.zero_emod]
theorem invS_rng {m : Int} {n : Nat} (hm : 0 < m) (hn : 1 ≤ n) (a : List Int) : ∀ x ∈ invS m n a, 0 ≤ x ∧ x < m := by
  have := invP_range hm n a (n - 1)
  rwa [invP_end (by omega)] at this
theorem sgn_step {m : Int} {k : Nat} : mk (k + 1) (fun k => if k % 2 = 0 then 1 else m - 1) = mk k (fun k => if k % 2 = 0 then 1 else m - 1) ++ [if k % 2 = 0 then 1 else m - 1] := mk_snoc _ _

theorem l03Add_n (m : Int) (n : Nat) (v u : Value) (xs ys : List (List Int)) (w : World) (hv : RdT w v xs) (hu : RdT w u ys) (hn : n ≤ 1000) (hm : 2 ≤ m) (hm' : m ≤ 10000) (hx : PlaT m n xs) (hy : PlaT m n ys) :
    Calls Try.prog 23 #[.int .i64 m, v, u] w fun e w' => ∃ v', e = .returned v' ∧ OwS w' w.heap.size v' (addT m n xs ys) ∧ Below w.heap.size w w' := by
  have hl := hx.1
  subst hl
  exact l03Add_c m v u xs ys w hv hu hm (by omega) hn hy.1 hx.2 hy.2
theorem l03Scale_n (m a : Int) (n : Nat) (v : Value) (xs : List (List Int)) (w : World) (hv : RdT w v xs) (hn : n ≤ 1000) (hm : 2 ≤ m) (hm' : m ≤ 10000) (ha : 0 ≤ a) (ha' : a < m) (hx : PlaT m n xs) :
    Calls Try.prog 24 #[.int .i64 m, .int .i64 a, v] w fun e w' => ∃ v', e = .returned v' ∧ OwS w' w.heap.size v' (scaT m n a xs) ∧ Below w.heap.size w w' := by
  have hl := hx.1
  subst hl
  exact l03Scale_c m a v xs w hv hm hm' ha ha' hn hx.2
end Go.Proofs.Ytmmneicblcjkjaa
