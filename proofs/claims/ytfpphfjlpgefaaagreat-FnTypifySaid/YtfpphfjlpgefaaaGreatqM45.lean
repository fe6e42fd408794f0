/- Lemmas. -/
import Derived.Test.YtfpphfjlpgefaaaGreatqM44
import Derived.Test.YtfpphfjlpgefaaaGreatqM26
import Derived.Test.YtfpphfjlpgefaaaGreatqM13
import Derived.Test.YtfpphfjlpgefaaaGreatqM27
import Derived.Test.YtfpphfjlpgefaaaGreatqSRev
import Derived.Test.YtfpphfjlpgefaaaGreatqG1
import Derived.Test.YtfpphfjlpgefaaaGreatqM6
import Derived.Test.YtfpphfjlpgefaaaGreatqG2
set_option linter.unusedSimpArgs false
set_option linter.unusedVariables false
namespace Go.Proofs.YtfpphfjlpgefaaaGreat
open Go.RowKit

def qDR (n : Nat) (W : Li) (k i : Nat) : Tb := tri n (fun a b => if a + b + 1 < k ∨ (a + b + 1 = k ∧ a < i) then at0 W (a + b + 1) else 0)
def qGJ (n : Nat) (W : Li) (k i j : Nat) : Li := mk (n - j) (fun b => if j + b + 1 < k ∨ (j + b + 1 = k ∧ j < i) then at0 W (j + b + 1) else 0)
theorem lnTo_0 (n : Nat) (W : Li) : qAb n = qDR n W 1 0 := qAE fun i j _ => by rw [if_neg Oo]
theorem qM6 {n : Nat} {W : Li} {k i j : Nat} (h : j < n) : (qDR n W k i)[j]? = some (qGJ n W k i j) := qAp h
theorem qHu (n : Nat) (W : Li) (k i j : Nat) : (qGJ n W k i j).length = n - j := qA8 _ _
theorem qQX {n : Nat} {W : Li} {k i : Nat} (h1 : 1 ≤ k) (hi : i < k) (hk : k ≤ n) : (qDR n W k i).set i ((qGJ n W k i i).set (k - 1 - i) (at0 W k)) = qDR n W k (i + 1) := by
 unfold qDR qGJ
 rw [qBp (f := fun a b => if a + b + 1 < k ∨ (a + b + 1 = k ∧ a < i) then at0 W (a + b + 1) else 0) Oo]
 refine qAE fun a b _ => ?_
 by_cases h : a = i ∧ b = k - 1 - i
 ·rw [if_pos h, if_pos Oo, show a + b + 1 = k by omega]
 ·rw [if_neg h]
  by_cases h2 : a + b + 1 < k ∨ (a + b + 1 = k ∧ a < i)
  ·rw [if_pos h2, if_pos Oo]
  ·rw [if_neg h2, if_neg Oo]
theorem qOa (n : Nat) (W : Li) (k : Nat) : qDR n W k k = qDR n W (k + 1) 0 := qAE fun a b _ => by
 by_cases h : a + b + 1 < k ∨ (a + b + 1 = k ∧ a < k)
 ·rw [if_pos h, if_pos Oo]
 ·rw [if_neg h, if_neg Oo]
theorem qNb {m : Int} (hm : 0 < m) {n : Nat} {W : Li} (hW : ∀ x ∈ W, 0 ≤ x ∧ x < m) : qDR n W (n + 1) 0 = linT m n W := qAE fun a b h => by
 have := qAG hm hW (a + b + 1)
 rw [if_pos Oo, Int.emod_eq_of_lt this.1 this.2]
theorem xT_set (n : Nat) (h : 2 ≤ n) : (qAb n).set 1 ((mk (n - 1) (fun _ => 0)).set 0 1) = xT n := by
 unfold qAb
 rw [qBp (f := fun _ _ => 0) Oo]
 rfl
theorem turn_x {m : Int} (hm : 2 ≤ m) (n : Nat) : qFV m (xT n) = yT n := by
 unfold qFV
 rw [show (xT n).length = n from qA9 _ _]
 refine qAE fun i j h => ?_
 unfold xT
 rw [qAi Oo]
 by_cases hh : j = 1 ∧ i = 0
 ·rw [if_pos hh, if_pos ⟨hh.2, hh.1⟩, Int.emod_eq_of_lt Oo Oo]
 ·rw [if_neg hh, if_neg (fun e => hh ⟨e.2, e.1⟩), Int.zero_emod]
theorem qNL {m : Int} (hm : 0 < m) {n : Nat} {W : Li} (hW : ∀ x ∈ W, 0 ≤ x ∧ x < m) : axT n W 0 = clnT m n (W.take n) := qAE fun i j hij => by
 have := qAG hm hW i
 have e : at0 (W.take n) i = at0 W i := by unfold at0 List.getD; rw [List.getElem?_take, if_pos Oo]
 rw [if_pos rfl, e]
 by_cases hj : j = 0
 ·rw [if_pos hj, Int.emod_eq_of_lt this.1 this.2]
 ·rw [if_neg hj, Int.zero_emod]
theorem qNw {m : Int} {n : Nat} (hm : 0 < m) (hn : 1 ≤ n) (a : Li) : ∀ x ∈ qCj m n a, 0 ≤ x ∧ x < m := by
 have := qPW hm n a (n - 1)
 rwa [qNS Oo] at this
theorem qO9 {m : Int} {k : Nat} : mk (k + 1) (fun k => if k % 2 = 0 then 1 else m - 1) = mk k (fun k => if k % 2 = 0 then 1 else m - 1) ++ [if k % 2 = 0 then 1 else m - 1] := qCN _ _

theorem qDk (m : Int) (n : Nat) (v u : Value) (xs ys : Tb) (w : World) (hv : RdT w v xs) (hu : RdT w u ys) (hn : n ≤ 1000) (hm : 2 ≤ m) (hm' : m ≤ 10000) (hx : PlaT m n xs) (hy : PlaT m n ys) :
  Calls Tryz.prog 174 #[.int .i64 m, v, u] w fun e w' => ∃ v', e = .returned v' ∧ OwS w' w.heap.size v' (qAr m n xs ys) ∧ Below w.heap.size w w' := by
 have hl := hx.1
 subst hl
 exact qGh m v u xs ys w hv hu hm Oo hn hy.1 hx.2 hy.2
theorem qDK (m a : Int) (n : Nat) (v : Value) (xs : Tb) (w : World) (hv : RdT w v xs) (hn : n ≤ 1000) (hm : 2 ≤ m) (hm' : m ≤ 10000) (ha : 0 ≤ a) (ha' : a < m) (hx : PlaT m n xs) :
  Calls Tryz.prog 175 #[.int .i64 m, .int .i64 a, v] w fun e w' => ∃ v', e = .returned v' ∧ OwS w' w.heap.size v' (qAP m n a xs) ∧ Below w.heap.size w w' := by
 have hl := hx.1
 subst hl
 exact qGk m a v xs w hv hm Oo ha ha' hn hx.2

theorem OwSR.bel2 {lo hi : Nat} {w u : World} {v : Value} {xss : Tb} (h : OwSR lo hi w v xss) (hb : Below hi w u) : OwSR lo hi u v xss :=
 h.stay (fun k _ hk => hb.block k hk)
def LiveE (b : Nat) (R : World → Prop) (u : World) : Prop := ∀ u' : World, (∀ k, k < u.heap.size → k ≠ b → u'.heap[k]? = u.heap[k]?) → R u'
theorem OwSR.live {lo hi b : Nat} {u : World} {v : Value} {t : Tb} (h : OwSR lo hi u v t) (hb : b < lo ∨ hi ≤ b) (hs : hi ≤ u.heap.size) : LiveE b (fun w => RdT w v t) u :=
 fun u' hk => (h.stay (fun k h1 h2 => hk k Oo Oo)).rd
theorem LiveE.grown {b : Nat} {R : World → Prop} {u u' : World} (h : LiveE b R u) (hg : u.grownBy u' (some b)) : R u' := h u' (fun k hk hne => hg.block k hk (fun e => hne (by cases e; rfl)))
def Bel (w w' : World) : Prop := Below w.heap.size w w'
theorem Bel.refl (w : World) : Bel w w := Below.refl _ _
theorem Bel.alloc {w w' : World} (h : Bel w w') (o : Obj) : Bel w (w'.alloc o) := Below.alloc h h.size o
def FlB (N : Nat) (u : World) (b : Nat) : Prop := RB2 u b (.int .i64 0) (.slice none 0 0) ∧ N ≤ b
theorem FlB.below {N B : Nat} {u u' : World} {b : Nat} (h : FlB N u b) (hb : Below B u u') (hB : u.heap.size ≤ B) : FlB N u' b := ⟨h.1.below hb hB, h.2⟩
theorem FlB.new {N : Nat} {u : World} {t : TypeId} (h : N ≤ u.heap.size) : FlB N (u.alloc (.cells #[.int .i64 0, .slice none 0 0] t)) u.heap.size := ⟨RB2.mk1 u _ _ t, h⟩
theorem FlB.lt {N : Nat} {u : World} {b : Nat} (h : FlB N u b) : b < u.heap.size := h.1.1.lt
end Go.Proofs.YtfpphfjlpgefaaaGreat
