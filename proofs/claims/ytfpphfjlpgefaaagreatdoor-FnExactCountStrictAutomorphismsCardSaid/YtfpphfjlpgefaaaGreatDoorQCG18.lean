/- Lemmas. -/
import Derived.Test.YtfpphfjlpgefaaaGreatDoorQCG7
import Derived.Test.YtfpphfjlpgefaaaGreatDoorQCG11
/- Cocycles of degree 2 to 10 are multiples of Lazard's: integer combinations (printed by gencoc.py). No program stands here. -/
set_option linter.unusedSimpArgs false
set_option linter.unusedVariables false
namespace Go.Proofs.YtfpphfjlpgefaaaGreatDoor

def lam (n : Nat) : Int := at0 [0, 0, 2, 3, 2, 5, 1, 7, 2, 3, 1] n
structure Coc (m : Int) (n : Nat) (d : Nat → Int) : Prop where
  sy : ∀ i, 1 ≤ i → i < n → m ∣ d i - d (n - i)
  as : ∀ p q k, 1 ≤ p → 1 ≤ q → 1 ≤ k → p + q + k = n → m ∣ bin (p + q) p * d (p + q) - bin (q + k) q * d p

end Go.Proofs.YtfpphfjlpgefaaaGreatDoor

/- Laws that agree below their degree differ by a cocycle. No program stands here. -/
set_option linter.unusedSimpArgs false
set_option linter.unusedVariables false
namespace Go.Proofs.YtfpphfjlpgefaaaGreatDoor
open Rg

section gen
variable {T : Type} [Rg T]
theorem pw_up1 {m : Int} {a b : T} (ha : lo m 1 a) (hb : lo m 1 b) (h : eqv m 2 a b) : ∀ k, eqv m (k + 1) (pw a k) (pw b k)
  | 0 => eqv_rfl
  | k + 1 => by
    have h1 := eqv_up ha (pw_up1 ha hb h k)
    have h2 := eqv_up (pw_lo hb k) h
    rw [ml_comm, ml_comm a] at h1
    exact eqv_trans (eqv_le h1 (by omega)) (eqv_le h2 (by omega))
end gen
theorem lo_law {m : Int} {n : Nat} {F : Nat → Nat → Int} (L : Lw m n F) : lo m 1 F := fun i => by
  by_cases hi : i = 0
  · subst hi
    exact lo_fun fun j hj => by rw [show j = 0 by omega]; exact L.zer
  · rw [show 1 - i = 0 by omega]; exact lo_0 _ _
theorem lo_xy (m : Int) : lo m 1 (ad xP yP) := fun i => by
  by_cases hi : i = 0
  · subst hi
    exact lo_fun fun j hj => by
      rw [show j = 0 by omega]
      show xP 0 0 + yP 0 0 = 0
      rw [xP_at, yP_at]; rfl
  · rw [show 1 - i = 0 by omega]; exact lo_0 _ _
theorem law_xy {m : Int} {n : Nat} {F : Nat → Nat → Int} (L : Lw m n F) : eqv m 2 F (ad xP yP) := by
  have h2 := L.two
  refine eqv2.2 fun i j h => ?_
  show _ = (xP i j + yP i j) % m
  rw [xP_at, yP_at]
  obtain ⟨rfl, rfl⟩ | ⟨rfl, rfl⟩ | ⟨rfl, rfl⟩ : (i = 0 ∧ j = 0) ∨ (i = 1 ∧ j = 0) ∨ (i = 0 ∧ j = 1) := by omega
  · rw [L.zer]; rfl
  · rw [L.un 1 (by omega)]; rfl
  · rw [L.sy 0 1 (by omega), L.un 1 (by omega)]; rfl
end Go.Proofs.YtfpphfjlpgefaaaGreatDoor
