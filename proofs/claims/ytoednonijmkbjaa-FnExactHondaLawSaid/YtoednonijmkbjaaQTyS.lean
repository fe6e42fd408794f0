/- Lemmas of TyS. -/
import Derived.Test.YtoednonijmkbjaaQTyN
set_option linter.unusedSimpArgs false
set_option linter.unusedVariables false
namespace Go.Proofs.Ytoednonijmkbjaa
open Go.RowKit
open Rg

theorem ml_col {F F' G G' : Nat → Nat → Int} (hF : ∀ a, F a 0 = F' a 0) (hG : ∀ a, G a 0 = G' a 0) (i : Nat) : (ml F G : Nat → Nat → Int) i 0 = (ml F' G' : Nat → Nat → Int) i 0 := by
  rw [cv_conv2, cv_conv2]
  unfold conv2
  refine sumN_congr fun a _ => sumN_congr fun b hb => ?_
  obtain rfl : b = 0 := by omega
  rw [hF, hG]
theorem ml_row {F F' G G' : Nat → Nat → Int} (hF : ∀ a, F 0 a = F' 0 a) (hG : ∀ a, G 0 a = G' 0 a) (i : Nat) : (ml F G : Nat → Nat → Int) 0 i = (ml F' G' : Nat → Nat → Int) 0 i := by
  rw [cv_conv2, cv_conv2]
  unfold conv2
  refine sumN_congr fun a ha => sumN_congr fun b hb => ?_
  obtain rfl : a = 0 := by omega
  rw [hF, hG]
theorem pw_col {F F' : Nat → Nat → Int} (hF : ∀ a, F a 0 = F' a 0) : ∀ k i, (pw F k : Nat → Nat → Int) i 0 = (pw F' k : Nat → Nat → Int) i 0
  | 0, _ => rfl
  | k + 1, i => ml_col (pw_col hF k) hF i
theorem pw_row {F F' : Nat → Nat → Int} (hF : ∀ a, F 0 a = F' 0 a) : ∀ k i, (pw F k : Nat → Nat → Int) 0 i = (pw F' k : Nat → Nat → Int) 0 i
  | 0, _ => rfl
  | k + 1, i => ml_row (pw_row hF k) hF i
theorem LQ_at (p : Nat) (l : Nat → Int) (n : Nat) (F : Nat → Nat → Int) (i j : Nat) : (LQ p l n F : Nat → Nat → Int) i j = sumN n (fun k => l k * (pw F (p ^ k) : Nat → Nat → Int) i j) := by
  unfold LQ
  rw [ser_sm, ser_sm, sumN_sm]
  exact sm_congr fun k _ => icml2 _ _ _ _
theorem DP_col {p : Nat} (hp : 1 ≤ p) (M : Nat) (l : Nat → Int) {F : Nat → Nat → Int} (hF : ∀ a, F a 0 = xP a 0) (i : Nat) : DP p M l F i 0 = 0 := by
  unfold DP
  rw [sub_at, LQ_at, LQ_at, LQ_at, show sumN (M + 1) (fun k => l k * (pw yP (p ^ k) : Nat → Nat → Int) i 0) = 0 from sumN_zero fun k _ => by
    rw [pwy_at]
    have := Nat.one_le_pow k p hp
    split
    · rw [if_neg (by omega), Int.mul_zero]
    · rw [Int.mul_zero], sumN_congr fun k _ => by rw [pw_col hF]]
  omega
theorem DP_row {p : Nat} (hp : 1 ≤ p) (M : Nat) (l : Nat → Int) {F : Nat → Nat → Int} (hF : ∀ a, F 0 a = yP 0 a) (i : Nat) : DP p M l F 0 i = 0 := by
  unfold DP
  rw [sub_at, LQ_at, LQ_at, LQ_at, show sumN (M + 1) (fun k => l k * (pw xP (p ^ k) : Nat → Nat → Int) 0 i) = 0 from sumN_zero fun k _ => by
    rw [pwx_at]
    have := Nat.one_le_pow k p hp
    split
    · rw [if_neg (by omega), Int.mul_zero]
    · rw [Int.mul_zero], sumN_congr fun k _ => by rw [pw_row hF]]
  omega
theorem tyF_col {p : Nat} (hp : 1 ≤ p) (M : Nat) (l : Nat → Int) : ∀ k i, tyF p M l k i 0 = xP i 0
  | 0, i => by
    show xP i 0 + yP i 0 = xP i 0
    rw [yP_at, if_neg (by omega), Int.add_zero]
  | k + 1, i => by
    show tyF p M l k i 0 + tyE p M l (k + 2) (tyF p M l k) i 0 = _
    unfold tyE
    rw [DP_col hp M l (tyF_col hp M l k), tyF_col hp M l k, Int.zero_ediv]
    split <;> simp
theorem tyF_row {p : Nat} (hp : 1 ≤ p) (M : Nat) (l : Nat → Int) : ∀ k i, tyF p M l k 0 i = yP 0 i
  | 0, i => by
    show xP 0 i + yP 0 i = yP 0 i
    rw [xP_at, if_neg (by omega), Int.zero_add]
  | k + 1, i => by
    show tyF p M l k 0 i + tyE p M l (k + 2) (tyF p M l k) 0 i = _
    unfold tyE
    rw [DP_row hp M l (tyF_row hp M l k), tyF_row hp M l k, Int.zero_ediv]
    split <;> simp
end Go.Proofs.Ytoednonijmkbjaa
