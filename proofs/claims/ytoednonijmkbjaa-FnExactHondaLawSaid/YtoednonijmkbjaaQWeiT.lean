/- Lemmas of WeiT. -/
import Derived.Test.YtoednonijmkbjaaQWei
set_option linter.unusedSimpArgs false
set_option linter.unusedVariables false
namespace Go.Proofs.Ytoednonijmkbjaa
open Rg

def scaT (m : Int) (n : Nat) (c : Int) (t : List (List Int)) : List (List Int) := tri n (fun i j => (c * atT t i j) % m)
theorem T_sca (m : Int) (n : Nat) (c : Int) (t : List (List Int)) : eqv m n (atT (scaT m n c t)) (ml (ic c) (atT t)) := by
  refine eqv_trans (T_tri m n _) (eqv2.2 fun i j h => ?_)
  rw [ser_icml]
  show c * atT t i j % m = (ml (ic c) (atT t i) : Nat → Int) j % m
  rw [ser_icml]; rfl
section tabs
variable (m : Int) (n : Nat) (a : Nat → Int) (W : List Int)
end tabs
section tabr
variable (m : Int) (n : Nat) (a : Nat → Int) (W : List Int)
end tabr
end Go.Proofs.Ytoednonijmkbjaa
