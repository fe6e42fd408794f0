/- Lemmas of PlaN2. -/
import Derived.Test.YtmmneicblcjkjaaQPlaZ
import Derived.Test.YtmmneicblcjkjaaQWeiA
import Derived.Test.YtmmneicblcjkjaaQSerN2
set_option linter.unusedSimpArgs false
set_option linter.unusedVariables false
namespace Go.Proofs.Ytmmneicblcjkjaa
open Go.RowKit

theorem PlaT.sub {m : Int} (hm : 0 < m) (n : Nat) (a b : List (List Int)) : PlaT m n (subT m n a b) := tri_ok fun _ _ _ => mod_lt' hm
theorem PlaT.sca {m : Int} (hm : 0 < m) (n : Nat) (c : Int) (a : List (List Int)) : PlaT m n (scaT m n c a) := tri_ok fun _ _ _ => mod_lt' hm
theorem PlaT.one {m : Int} (hm : 0 < m) (n : Nat) : PlaT m n (oneT m n) := tri_ok fun _ _ _ => mod_lt' hm
theorem PlaT.geo {m : Int} (hm : 0 < m) (n : Nat) (r : List (List Int)) (j : Nat) : PlaT m n (geoT m n r j) := by
  cases j with
  | zero => exact PlaT.one hm n
  | succ j => exact addT_ok hm n _ _
theorem PlaT.inv {m : Int} (hm : 0 < m) (n : Nat) (f : List (List Int)) : PlaT m n (invT m n f) := PlaT.geo hm n _ _
theorem PlaT.xT {m : Int} (hm : 2 ≤ m) (n : Nat) : PlaT m n (xT n) := tri_ok fun i j _ => by split <;> omega
theorem PlaT.yT {m : Int} (hm : 2 ≤ m) (n : Nat) : PlaT m n (yT n) := tri_ok fun i j _ => by split <;> omega
theorem PlaT.lin {m : Int} (hm : 0 < m) (n : Nat) (W : List Int) : PlaT m n (linT m n W) := tri_ok fun _ _ _ => mod_lt' hm
theorem PlaT.cln {m : Int} (hm : 0 < m) (n : Nat) (W : List Int) : PlaT m n (clnT m n W) := tri_ok fun _ _ _ => mod_lt' hm
theorem numbT_1 (m : Int) (n : Nat) : numbT m 1 n = oneT m n := tri_ext fun i j _ => by
  split <;> simp
theorem axT_x (n : Nat) (h : 2 ≤ n) : axT n (varL n) 0 = xT n := tri_ext fun i j hij => by
  rw [if_pos rfl]
  unfold varL
  rw [at0_set, at0_rep, List.length_replicate]
  by_cases hj : j = 0
  · by_cases hi : i = 1
    · rw [if_pos hj, if_pos ⟨hi, by omega⟩, if_pos ⟨hi, hj⟩]
    · rw [if_pos hj, if_neg (fun e => hi e.1), if_neg (fun e => hi e.1)]
  · rw [if_neg hj, if_neg (fun e => hj e.2)]
theorem axT_y (n : Nat) (h : 2 ≤ n) : axT n (varL n) 1 = yT n := tri_ext fun i j hij => by
  rw [if_neg (by omega)]
  unfold varL
  rw [at0_set, at0_rep, List.length_replicate]
  by_cases hi : i = 0
  · by_cases hj : j = 1
    · rw [if_pos hi, if_pos ⟨hj, by omega⟩, if_pos ⟨hi, hj⟩]
    · rw [if_pos hi, if_neg (fun e => hj e.1), if_neg (fun e => hj e.2)]
  · rw [if_neg hi, if_neg (fun e => hi e.1)]
theorem axT_cln {m : Int} (hm : 0 < m) {n : Nat} {W : List Int} (hW : LisN m n W) : axT n W 0 = clnT m n W := tri_ext fun i j hij => by
  rw [if_pos rfl]
  have := at0_range hm hW.2 i
  by_cases hj : j = 0
  · rw [if_pos hj, Int.emod_eq_of_lt this.1 this.2]
  · rw [if_neg hj, Int.zero_emod]

theorem plusP_n (m m' : Int) (n : Nat) (v u : Value) (xs ys : List (List Int)) (w : World) (hv : RdT w v xs) (hu : RdT w u ys) (h1 : 1 ≤ n) (hn : n ≤ 1000) (hm : 2 ≤ m) (hm' : m ≤ 10000) (hx : PlaT m n xs) (hy : PlaT m n ys) :
    Calls Try.prog 40 #[.agg #[.int .i64 m, v], .agg #[.int .i64 m', u]] w fun e w' => PVEnd w w' m (addT m n xs ys) e := by
  have hl := hx.1
  subst hl
  exact plusP_c m m' v u xs ys w hv hu h1 hn hy.1 hm (by omega) hx.2 hy.2
theorem minusP_n (m m' : Int) (n : Nat) (v u : Value) (xs ys : List (List Int)) (w : World) (hv : RdT w v xs) (hu : RdT w u ys) (h1 : 1 ≤ n) (hn : n ≤ 1000) (hm : 2 ≤ m) (hm' : m ≤ 10000) (hx : PlaT m n xs) (hy : PlaT m n ys) :
    Calls Try.prog 37 #[.agg #[.int .i64 m, v], .agg #[.int .i64 m', u]] w fun e w' => PVEnd w w' m (subT m n xs ys) e := by
  have hl := hx.1
  subst hl
  exact minusP_c m m' v u xs ys w hv hu h1 hn hy.1 hm (by omega) hx.2 hy.2
theorem scaledP_n (m c : Int) (n : Nat) (v : Value) (xs : List (List Int)) (w : World) (hv : RdT w v xs) (h1 : 1 ≤ n) (hn : n ≤ 1000) (hm : 2 ≤ m) (hm' : m ≤ 10000) (hx : PlaT m n xs) (hc : -1000000000000 ≤ c) (hc' : c ≤ 1000000000000) :
    Calls Try.prog 39 #[.agg #[.int .i64 m, v], .int .i64 c] w fun e w' => PVEnd w w' m (scaT m n c xs) e := by
  have hl := hx.1
  subst hl
  exact scaledP_c m c v xs w hv h1 hn hm hm' hc hc' hx.2
theorem one_n (m : Int) (o : Option Addr) (n c : Nat) (w : World) (h1 : 1 ≤ n) (hn : n ≤ 1000) (hm : 2 ≤ m) (hm' : m ≤ 10000) :
    Calls Try.prog 41 #[.agg #[.int .i64 m, .slice o n c], .int .i64 1] w fun e w' => PVEnd w w' m (oneT m n) e := by
  rw [← numbT_1]
  exact number_c m 1 o n c w h1 hn hm (by omega) (by omega) (by omega)
end Go.Proofs.Ytmmneicblcjkjaa
