/- Lemmas of LeC. -/
import Derived.Test.YtoednonijmkbjaaGreatVG21
import Derived.Test.YtoednonijmkbjaaGreatVTyU
import Derived.Test.YtoednonijmkbjaaGreatVG18
set_option linter.unusedSimpArgs false
set_option linter.unusedVariables false
namespace Go.Proofs.YtoednonijmkbjaaGreat
open Go.RowKit
open Rg

theorem num_congr {p : Nat} {v v' : Nat → Int} : ∀ k, (∀ i, i < k → v i = v' i) → num p v k = num p v' k := by
  intro k
  induction k using Nat.strongRecOn with
  | _ k ih =>
    intro h
    cases k with
    | zero => rfl
    | succ k =>
      rw [num_succ, num_succ]
      refine sumN_congr fun i hi => ?_
      rw [ih i (by omega) (fun j hj => h j (by omega)), h (k - i) (by omega)]
theorem tyl_0 (p M : Nat) (v : Nat → Int) : tyl p M v 0 = (p : Int) ^ M := by
  unfold tyl; rw [num_0, Int.mul_one, Nat.sub_zero]
theorem tyl_ne {p M : Nat} (hp : P4 p) (v : Nat → Int) : tyl p M v 0 ≠ 0 := by
  have := hp.pos
  rw [tyl_0]; exact Int.pow_ne_zero (by omega)
def tyLaw (p n : Nat) (v : Nat → Int) : Nat → Nat → Int := tyF p (mostOf p n) (tyl p (mostOf p n) v) (n - 1)
theorem most_lt {p n : Nat} (hp : P4 p) (hn : n ≤ 10) : n < p ^ (mostOf p n + 1) := by
  have k := (most_key hp hn (Nat.le_refl (mostOf p n))).2.2.1
  exact Nat.lt_of_not_le fun h => Nat.lt_irrefl _ (k.1 h)
theorem tyLaw_log {p n : Nat} (hp : P4 p) (n1 : 1 ≤ n) (hn : n ≤ 10) (v : Nat → Int) :
    eqv 0 (n + 1) (LQ p (tyl p (mostOf p n) v) (mostOf p n + 1) (tyLaw p n v)) (ad (LQ p (tyl p (mostOf p n) v) (mostOf p n + 1) xP) (LQ p (tyl p (mostOf p n) v) (mostOf p n + 1) yP)) := by
  obtain ⟨F, hF, h0, h⟩ := ty_ex (most_ok hp hn) v (n := n + 1) (by omega) (most_lt hp hn)
  rw [show n + 1 - 2 = n - 1 by omega] at hF
  rw [hF] at h
  exact h
theorem tyLaw_0 (p n : Nat) (v : Nat → Int) : tyLaw p n v 0 0 = 0 := tyF_0 _ _ _ _
theorem tyLaw_lw {p n : Nat} (hp : P4 p) (n1 : 1 ≤ n) (hn : n ≤ 10) (v : Nat → Int) (m : Int) : Lw m (n + 1) (tyLaw p n v) := by
  refine Lw.of0 (lw_log (p := p) (M := mostOf p n) hp.pos.1 (tyl_ne hp v) (by omega) (tyLaw_0 p n v) (fun i => ?_) (tyLaw_log hp n1 hn v)) m
  have := tyF_col (p := p) (by have := hp.pos; omega) (mostOf p n) (tyl p (mostOf p n) v) (n - 1) i
  unfold tyLaw
  rw [this, xP_at]
  by_cases h : i = 1
  · rw [if_pos ⟨h, rfl⟩, if_pos h]
  · rw [if_neg (fun e => h e.1), if_neg h]
theorem LQ_3 {p M n : Nat} (hp : P4 p) (hM : M ≤ 3) (hn : n ≤ p ^ (M + 1)) (v : Nat → Int) {X : Nat → Nat → Int} (hX : lo 0 1 X) :
    eqv 0 n (LQ p (tyl p 3 v) (3 + 1) X) (ml (ic ((p : Int) ^ (3 - M))) (LQ p (tyl p M v) (M + 1) X)) := by
  have hp2 := hp.pos
  unfold LQ
  rw [show 3 + 1 = (M + 1) + (3 - M) by omega, sm_split, sm_ml]
  refine eqv_trans (eqv_ad (y' := zz) (sm_eqv (g := fun k => ml (ic ((p : Int) ^ (3 - M))) (ml (ic (tyl p M v k)) (pw X (p ^ k)))) fun k hk => eqv_of ?_) (eqv_lo (sm_lo fun i hi => ?_))) (eqv_of (ad_zz _))
  · rw [← ml_assoc, ← ic_ml]
    congr 2
    unfold tyl
    rw [← Int.mul_assoc, ← Int.pow_add, show 3 - M + (M - k) = 3 - k by omega]
  · refine lo_mul _ (lo_le (pw_lo hX _) (Nat.le_trans hn (Nat.pow_le_pow_right (by omega) (by omega))))
theorem most_3 {p n : Nat} (hp : P4 p) (hn : n ≤ 10) : mostOf p n ≤ 3 := (most_ok hp hn).2.1
theorem tyLaw_log3 {p n : Nat} (hp : P4 p) (n1 : 1 ≤ n) (hn : n ≤ 10) (v : Nat → Int) :
    eqv 0 (n + 1) (LQ p (tyl p 3 v) (3 + 1) (tyLaw p n v)) (ad (LQ p (tyl p 3 v) (3 + 1) xP) (LQ p (tyl p 3 v) (3 + 1) yP)) := by
  have hM := most_3 hp hn
  have hk := most_lt hp hn
  have e1 := LQ_3 hp hM (show n + 1 ≤ _ from hk) v (lo_of0 (tyLaw_0 p n v))
  have e2 := LQ_3 hp hM (show n + 1 ≤ _ from hk) v (lo_xP 0)
  have e3 := LQ_3 hp hM (show n + 1 ≤ _ from hk) v (lo_yP 0)
  refine eqv_trans e1 (eqv_trans (eqv_mll _ (tyLaw_log hp n1 hn v)) ?_)
  rw [ml_ad]
  exact eqv_symm (eqv_ad e2 e3)
theorem LQ_par {p r n : Nat} (hp : P4 p) {v v' : Nat → Int} (hv : ∀ i, i < r → v i = v' i) (hn : n ≤ p ^ (r + 1)) {X : Nat → Nat → Int} (hX : lo 0 1 X) :
    eqv 0 n (LQ p (tyl p 3 v) (3 + 1) X) (LQ p (tyl p 3 v') (3 + 1) X) := by
  have hp2 := hp.pos
  refine sm_eqv fun k hk => ?_
  by_cases h : k ≤ r
  · refine eqv_of ?_
    unfold tyl
    rw [num_congr k (fun i hi => hv i (by omega))]
  · have hl : lo 0 n (pw X (p ^ k)) := lo_le (pw_lo hX _) (Nat.le_trans hn (Nat.pow_le_pow_right (by omega) (by omega)))
    exact eqv_trans (eqv_lo (lo_mul _ hl)) (eqv_symm (eqv_lo (lo_mul _ hl)))
theorem tyLaw_agree {p n n' r k : Nat} (hp : P4 p) (n1 : 1 ≤ n) (hn : n ≤ 10) (n1' : 1 ≤ n') (hn' : n' ≤ 10) {v v' : Nat → Int} (hv : ∀ i, i < r → v i = v' i) (h1 : k ≤ n + 1) (h2 : k ≤ n' + 1) (h3 : k ≤ p ^ (r + 1)) :
    ∀ i j, i + j < k → tyLaw p n v i j = tyLaw p n' v' i j := by
  have a := eqv_le (tyLaw_log3 hp n1 hn v) h1
  have b := eqv_le (tyLaw_log3 hp n1' hn' v') h2
  have l1 := lo_of0 (m := 0) (tyLaw_0 p n v)
  have l2 := lo_of0 (m := 0) (tyLaw_0 p n' v')
  have c := eqv_trans (LQ_par hp hv h3 l2) (eqv_trans b (eqv_symm (eqv_ad (LQ_par hp hv h3 (lo_xP 0)) (LQ_par hp hv h3 (lo_yP 0)))))
  have d := LQ_inj (tf_ser (tf_ser tf_int)) hp.pos.1 (tyl_ne hp v) l1 l2 (eqv_trans a (eqv_symm c)) k (Nat.le_refl _)
  intro i j hij
  have := eqv2.1 d i j hij
  rwa [Int.emod_zero, Int.emod_zero] at this

theorem laz_cancel {n : Nat} (h2 : 2 ≤ n) (hn : n ≤ 10) {m x y : Int} (h : ∀ i, i < n + 1 → x * laz n i % m = y * laz n i % m) : x % m = y % m := by
  have d : ∀ i, i < n + 1 → m ∣ laz n i * (x - y) := fun i hi => by
    have := dvd_of_emod (h i hi)
    rwa [← Int.sub_mul, Int.mul_comm] at this
  refine emod_of_dvd ?_
  obtain rfl | rfl | rfl | rfl | rfl | rfl | rfl | rfl | rfl : n = 2 ∨ n = 3 ∨ n = 4 ∨ n = 5 ∨ n = 6 ∨ n = 7 ∨ n = 8 ∨ n = 9 ∨ n = 10 := by omega
  · have h1 : m ∣ 1 * (x - y) := d 1 (by omega)
    rwa [Int.one_mul] at h1
  · have h1 : m ∣ 1 * (x - y) := d 1 (by omega)
    rwa [Int.one_mul] at h1
  · have h1 : m ∣ 2 * (x - y) := d 1 (by omega)
    have h2 : m ∣ 3 * (x - y) := d 2 (by omega)
    have h := Int.dvd_sub h2 h1
    rwa [show 3 * (x - y) - 2 * (x - y) = x - y by omega] at h
  · have h1 : m ∣ 1 * (x - y) := d 1 (by omega)
    rwa [Int.one_mul] at h1
  · have h1 : m ∣ 6 * (x - y) := d 1 (by omega)
    have h2 : m ∣ 15 * (x - y) := d 2 (by omega)
    have h3 : m ∣ 20 * (x - y) := d 3 (by omega)
    have h := Int.dvd_sub (Int.dvd_add h1 h2) h3
    rwa [show 6 * (x - y) + 15 * (x - y) - 20 * (x - y) = x - y by omega] at h
  · have h1 : m ∣ 1 * (x - y) := d 1 (by omega)
    rwa [Int.one_mul] at h1
  · have h1 : m ∣ 4 * (x - y) := d 1 (by omega)
    have h3 : m ∣ 28 * (x - y) := d 3 (by omega)
    have h4 : m ∣ 35 * (x - y) := d 4 (by omega)
    have h := dv2 2 h1 (dv2 (-1) h4 h3)
    rwa [show 2 * (4 * (x - y)) + ((-1) * (35 * (x - y)) + 28 * (x - y)) = x - y by omega] at h
  · have h1 : m ∣ 3 * (x - y) := d 1 (by omega)
    have h3 : m ∣ 28 * (x - y) := d 3 (by omega)
    have h := dv2 (-9) h1 h3
    rwa [show (-9) * (3 * (x - y)) + 28 * (x - y) = x - y by omega] at h
  · have h1 : m ∣ 10 * (x - y) := d 1 (by omega)
    have h2 : m ∣ 45 * (x - y) := d 2 (by omega)
    have h5 : m ∣ 252 * (x - y) := d 5 (by omega)
    have h := dv2 101 h2 (dv2 (-404) h1 (dv2 (-2) h5 (Int.dvd_zero m)))
    rwa [show 101 * (45 * (x - y)) + ((-404) * (10 * (x - y)) + ((-2) * (252 * (x - y)) + 0)) = x - y by omega] at h
end Go.Proofs.YtoednonijmkbjaaGreat
