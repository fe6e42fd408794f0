/- Lemmas of Wei. -/
import Derived.Test.YtoednonijmkbjaaQRgS
set_option linter.unusedSimpArgs false
set_option linter.unusedVariables false
namespace Go.Proofs.Ytoednonijmkbjaa
open Rg

theorem x_ml (f : Nat → Int) (k : Nat) : (ml xS f : Nat → Int) (k + 1) = f k := by
  rw [cv_conv]
  unfold conv
  rw [sumN_only (i := 1) (by omega) fun j hj hne => by unfold xS mon; rw [if_neg hne, Int.zero_mul]]
  unfold xS mon
  rw [if_pos rfl, Int.one_mul, Nat.add_sub_cancel]
theorem x_ml0 (f : Nat → Int) : (ml xS f : Nat → Int) 0 = 0 := by
  rw [cv_conv]
  unfold conv
  rw [sumN_one]
  unfold xS mon
  rw [if_neg (by omega), Int.zero_mul]
theorem x3 (k : Nat) : (ml (ml xS xS) xS : Nat → Int) k = if k = 3 then 1 else 0 := by
  rw [ml_assoc]
  cases k with
  | zero => rw [x_ml0]; rfl
  | succ k =>
    rw [x_ml]
    cases k with
    | zero => rw [x_ml0]; rfl
    | succ k =>
      rw [x_ml]
      unfold xS mon
      by_cases h : k = 1
      · subst h; rfl
      · rw [if_neg h, if_neg (by omega)]
end Go.Proofs.Ytoednonijmkbjaa
