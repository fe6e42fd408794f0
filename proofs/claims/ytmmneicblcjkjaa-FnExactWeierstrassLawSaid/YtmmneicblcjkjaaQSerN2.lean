/- Lemmas of SerN2. -/
import Derived.Test.YtmmneicblcjkjaaQG3
import Derived.Test.YtmmneicblcjkjaaQInvL
set_option linter.unusedSimpArgs false
set_option linter.unusedVariables false
namespace Go.Proofs.Ytmmneicblcjkjaa
open Go.RowKit

theorem RdI.cellz {w : World} {b f n c : Nat} {xs : List Int} {x : Int} (h : RdI w (.slice (some ⟨b, f, none⟩) n c) xs) (hx : xs[0]? = some x) : w.cell? ⟨b, f, none⟩ = some (.int .i64 x) := by
  have := h.cell0 hx
  rwa [Nat.add_zero] at this
def LisN (m : Int) (n : Nat) (xs : List Int) : Prop := xs.length = n ∧ ∀ x ∈ xs, 0 ≤ x ∧ x < m
theorem LisN.times {m : Int} {n : Nat} (hm : 0 < m) (a b : List Int) : LisN m n (timesL m n a b) := ⟨timesL_len _ _ _ _, timesL_range hm⟩
theorem LisN.add {m : Int} {n : Nat} (hm : 0 < m) (a b : List Int) : LisN m n (addL m n a b) := ⟨addL_len _ _ _ _, addL_range hm⟩
theorem LisN.scale {m : Int} {n : Nat} (hm : 0 < m) {a : List Int} (h : LisN m n a) (c : Int) : LisN m n (scaleL m c a) := ⟨by rw [scaleL_len]; exact h.1, scaleL_range hm⟩
theorem LisN.var {m : Int} (hm : 2 ≤ m) (n : Nat) : LisN m n (varL n) := ⟨varL_len _, varL_range hm _⟩
theorem times_n (m m' : Int) (n : Nat) (v u : Value) (xs ys : List Int) (w : World) (hv : RdI w v xs) (hu : RdI w u ys) (h1 : 1 ≤ n) (hn : n ≤ 1000) (hm : 2 ≤ m) (hm' : m ≤ 10000) (hx : LisN m n xs) (hy : LisN m n ys) :
    Calls Try.prog 55 #[.agg #[.int .i64 m, v], .agg #[.int .i64 m', u]] w fun e w' => SVEnd w w' m (timesL m n xs ys) e := by
  obtain ⟨rfl, hx⟩ := hx
  exact times_c m m' v u xs ys w hv hu hy.1 h1 (by omega) hm (by omega) hx hy.2
theorem plus_n (m m' : Int) (n : Nat) (v u : Value) (xs ys : List Int) (w : World) (hv : RdI w v xs) (hu : RdI w u ys) (h1 : 1 ≤ n) (hn : n ≤ 1000) (hm : 2 ≤ m) (hm' : m ≤ 10000) (hx : LisN m n xs) (hy : LisN m n ys) :
    Calls Try.prog 57 #[.agg #[.int .i64 m, v], .agg #[.int .i64 m', u]] w fun e w' => SVEnd w w' m (addL m n xs ys) e := by
  obtain ⟨rfl, hx⟩ := hx
  exact plus_c m m' v u xs ys w hv hu hy.1 h1 (by omega) hm (by omega) hx hy.2
theorem scaled_n (m a : Int) (n : Nat) (v : Value) (xs : List Int) (w : World) (hv : RdI w v xs) (h1 : 1 ≤ n) (hn : n ≤ 1000) (hm : 2 ≤ m) (hm' : m ≤ 10000) (hx : LisN m n xs) (ha : -9000000000000000000 ≤ a) (ha' : a ≤ 9000000000000000000) :
    Calls Try.prog 58 #[.agg #[.int .i64 m, v], .int .i64 a] w fun e w' => SVEnd w w' m (scaleL m a xs) e := by
  obtain ⟨rfl, hx⟩ := hx
  exact scaled_c m a v xs w hv h1 (by omega) hm (by omega) hx ha ha'
end Go.Proofs.Ytmmneicblcjkjaa
