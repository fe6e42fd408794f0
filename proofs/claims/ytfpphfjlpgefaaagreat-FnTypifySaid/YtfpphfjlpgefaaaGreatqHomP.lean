/- Lemmas. -/
import Derived.Test.YtfpphfjlpgefaaaGreatqG13
import Derived.Test.YtfpphfjlpgefaaaGreatqG1
set_option linter.unusedSimpArgs false
set_option linter.unusedVariables false
namespace Go.Proofs.YtfpphfjlpgefaaaGreat
open Rg

def qA_ (k : Nat) (t : Tb) : Tb := tri k (atT t)
theorem qKU (k : Nat) (t : Tb) : (qA_ k t).length = k := qA9 _ _
theorem qF7 {m : Int} {n k : Nat} {t : Tb} (ht : PlaT m n t) (hk : k ≤ n) : PlaT m k (qA_ k t) := qB2 fun i j h => qBT ht Oo
theorem qEQ {k : Nat} {t : Tb} {i j : Nat} (h : i + j < k) : atT (qA_ k t) i j = atT t i j := qAi h

def homT (m : Int) (n : Nat) (t s : Tb) (xs : Li) : Prop := qAK m n t xs = qBw m n s xs xs
theorem qQz {m : Int} {n : Nat} {t s : Tb} {xs : Li} (hm : 0 < m) (ht : PlaT m n t) (hs : PlaT m n s) (h0 : at0 xs 0 = 0) (hl : xs.length = n) (ht0 : atT t 0 0 = 0) :
  homT m n t s xs ↔ eqv m n (ev1 n (at0 xs) (atT t)) (ev2 n (atT s) (onx (at0 xs)) (ony (at0 xs))) := by
 have e1 := qHD (m := m) (n := n) t xs Oo
 have e2 := T_bot hs xs xs
 constructor
 ·intro h; rw [h] at e1; exact qA2 (qAQ e1) e2
 ·intro h; exact qHE (qAF hm _ _ _) (qH7 hm _ _ _ _ _ _) (qA2 e1 (qA2 h (qAQ e2)))
theorem lo_atT {m : Int} {t : Tb} (h : atT t 0 0 = 0) : lo m 1 (atT t) := fun i => by
 by_cases hi : i = 0
 ·subst hi; exact qEr fun j hj => by rw [show j = 0 by omega]; exact h
 ·rw [show 1 - i = 0 by omega]; exact lo_0 _ _
end Go.Proofs.YtfpphfjlpgefaaaGreat
