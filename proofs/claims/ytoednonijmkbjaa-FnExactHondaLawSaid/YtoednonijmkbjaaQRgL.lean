/- Lemmas of RgL. -/
import Derived.Test.YtoednonijmkbjaaQRg
set_option linter.unusedSimpArgs false
set_option linter.unusedVariables false
namespace Go.Proofs.Ytoednonijmkbjaa
open Rg

theorem eqv1 {m : Int} {n : Nat} {f g : Nat → Int} : eqv m n f g ↔ ∀ k, k < n → f k % m = g k % m := by
  constructor
  · intro h k hk
    rcases int_eqv.1 (eqv_ser h k) with e | e
    · omega
    · exact e
  · intro h
    exact ser_eqv fun k hk => int_eqv.2 (.inr (h k hk))
theorem eqv2 {m : Int} {n : Nat} {f g : Nat → Nat → Int} : eqv m n f g ↔ ∀ i j, i + j < n → f i j % m = g i j % m := by
  constructor
  · intro h i j hk
    exact eqv1.1 (eqv_ser h i) j (by omega)
  · intro h
    exact ser_eqv fun i hi => eqv1.2 fun j hj => h i j (by omega)

section gen
variable {T : Type} [Rg T]
def ev1 (n : Nat) (f : Nat → Int) (a : T) : T := ex n Rg.ic a f
def ev2 (n : Nat) (F : Nat → Nat → Int) (a b : T) : T := ex n (ex n Rg.ic b) a F
theorem hm1 {m : Int} {n : Nat} {a : T} (ha : lo m 1 a) : Hm m n (fun f => ev1 n f a) := (Hm.int m n).ex ha
theorem hm2 {m : Int} {n : Nat} {a b : T} (ha : lo m 1 a) (hb : lo m 1 b) : Hm m n (fun F => ev2 n F a b) := ((Hm.int m n).ex hb).ex ha
theorem ic_sm (n : Nat) (f : Nat → Int) : (ic (sm n f) : T) = sm n (fun i => ic (f i)) := (Hm.int 0 0).sm n f
theorem ev2_sum (n : Nat) (F : Nat → Nat → Int) (a b : T) : ev2 n F a b = sm n (fun i => sm n (fun j => ml (ic (F i j)) (ml (pw a i) (pw b j)))) := by
  unfold ev2 ex
  refine sm_congr fun i _ => ?_
  rw [sm_mr]
  exact sm_congr fun j _ => by ac_rfl
theorem pw_zz (k : Nat) : pw (zz : T) (k + 1) = zz := ml_zz _
theorem pw_1 (a : T) : pw a 1 = a := oo_ml _

structure Lw (m : Int) (n : Nat) (F : Nat → Nat → Int) : Prop where
  two : 2 ≤ n
  zer : F 0 0 = 0
  un : ∀ i, i < n → F i 0 % m = (if i = 1 then 1 else 0) % m
  sy : ∀ i j, i + j < n → F i j % m = F j i % m
  as : ∀ p q k, p + q + k < n → sm n (fun i => F i k * (pw F i : Nat → Nat → Int) p q) % m = sm n (fun j => F p j * (pw F j : Nat → Nat → Int) q k) % m
theorem sum_one {n : Nat} (h : 2 ≤ n) (f : Nat → T) : sm n (fun i => ml (ic (if i = 1 then 1 else 0)) (f i)) = f 1 := by
  obtain ⟨k, rfl⟩ : ∃ k, n = k + 1 + 1 := ⟨n - 2, by omega⟩
  rw [sm_first, sm_first, sm_none (n := k) fun i _ => by rw [if_neg (by omega), ic_0, zz_ml]]
  rw [if_neg (by omega), if_pos rfl, ic_0, ic_1, zz_ml, oo_ml, ad_zz, zz_ad]
end gen
end Go.Proofs.Ytoednonijmkbjaa
