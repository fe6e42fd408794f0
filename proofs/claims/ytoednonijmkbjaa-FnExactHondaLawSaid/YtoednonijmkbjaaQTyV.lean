/- Lemmas of TyV. -/
import Derived.Test.YtoednonijmkbjaaQTyU
set_option linter.unusedSimpArgs false
set_option linter.unusedVariables false
namespace Go.Proofs.Ytoednonijmkbjaa
open Go.RowKit

def hondaT (p h n : Nat) : List (List Int) := tri (n + 1) (fun i j => tyF p (mostOf p n) (tyl p (mostOf p n) (fun k => if k = h - 1 then 1 else 0)) (n - 1) i j % p)
def hondaR (p h n : Int) : PR := if (primB p && inB h 1 3 && inB n 1 10) = true then ⟨p, hondaT p.toNat h.toNat n.toNat, 0⟩ else ⟨0, [], 2⟩
theorem honda_at {h : Nat} (h1 : 1 ≤ h) (h3 : h ≤ 3) {k : Nat} (hk : k = h ∨ k = 3) : at0 (hondaL k h ++ List.replicate (3 - k) (0 : Int)) = fun i => if i = h - 1 then 1 else 0 := by
  funext i
  by_cases hi : i < 3
  · obtain rfl | rfl | rfl : h = 1 ∨ h = 2 ∨ h = 3 := by omega
    all_goals
      rcases hk with rfl | rfl
      all_goals
        obtain rfl | rfl | rfl : i = 0 ∨ i = 1 ∨ i = 2 := by omega
        all_goals rfl
  · rw [if_neg (by omega)]
    have hl : (hondaL k h ++ List.replicate (3 - k) (0 : Int)).length = 3 := by unfold hondaL; simp; omega
    simp [at0, List.getD, List.getElem?_eq_none (show (hondaL k h ++ List.replicate (3 - k) (0 : Int)).length ≤ i by omega)]
theorem HondaLaw_c (p h n : Int) (w : World) : Calls Try.prog 7 #[.int .i64 p, .int .i64 h, .int .i64 n] w fun e w' => PEnd w w' (hondaR p h n) e := by
  by_cases hg : (primB p && inB h 1 3 && inB n 1 10) = true
  · have hg2 := hg
    simp only [Bool.and_eq_true] at hg2
    obtain ⟨⟨a, b⟩, c⟩ := hg2
    have b' := inB_t b
    have c' := inB_t c
    obtain ⟨H, rfl⟩ : ∃ H : Nat, h = H := ⟨h.toNat, by omega⟩
    obtain ⟨N, rfl⟩ : ∃ N : Nat, n = N := ⟨n.toNat, by omega⟩
    obtain ⟨P, rfl⟩ : ∃ P : Nat, p = P := ⟨p.toNat, by have := primB_t a; omega⟩
    have hp : P4 P := by have := primB_t a; unfold P4; omega
    have hp2 := hp.pos
    have hpw := (hp.pow9 (show N - 1 ≤ 10 by omega)).1
    have h := HondaLaw_good P H N w hp (by omega) (by omega) (by omega) (by omega) a b c
    rw [prog_tab hp (by omega) (by omega) _ (m := (P : Int)) (by omega) rfl (by
      have := Int.mul_le_mul (show (2 : Int) ≤ P by omega) (show (1 : Int) ≤ ((P ^ (N - 1) : Nat) : Int) by omega) (by omega) (by omega)
      omega), honda_at (by omega) (by omega) (.inl rfl)] at h
    unfold hondaR
    rw [if_pos hg]
    exact h
  · unfold hondaR
    rw [if_neg hg]
    exact HondaLaw_bad p h n w (by simpa using hg)
theorem sHondaLaw_c (p h n : Int) (w : World) : Calls Try.prog 6 #[.int .i64 p, .int .i64 h, .int .i64 n] w fun e w' => PEnd w w' (hondaR p h n) e := by
  by_cases hg : (primB p && inB h 1 3 && inB n 1 10) = true
  · have hg2 := hg
    simp only [Bool.and_eq_true] at hg2
    obtain ⟨⟨a, b⟩, c⟩ := hg2
    have b' := inB_t b
    have c' := inB_t c
    obtain ⟨H, rfl⟩ : ∃ H : Nat, h = H := ⟨h.toNat, by omega⟩
    obtain ⟨N, rfl⟩ : ∃ N : Nat, n = N := ⟨n.toNat, by omega⟩
    obtain ⟨P, rfl⟩ : ∃ P : Nat, p = P := ⟨p.toNat, by have := primB_t a; omega⟩
    have hp : P4 P := by have := primB_t a; unfold P4; omega
    have hp2 := hp.pos
    obtain ⟨-, k2, -, -⟩ := most_key hp (show N ≤ 10 by omega) (Nat.le_refl (mostOf P N))
    have h := sHondaLaw_good P H N w hp (by omega) (by omega) (by omega) (by omega) a b c _ rfl _ rfl _ rfl
    have hW2 : 2 ≤ (P : Int) * ((P ^ mostOf P N : Nat) : Int) * P := by
      have hpw := (hp.pow9 (show mostOf P N ≤ 10 by omega)).1
      have h1 := Int.mul_le_mul (show (2 : Int) ≤ P by omega) (show (1 : Int) ≤ ((P ^ mostOf P N : Nat) : Int) by omega) (by omega) (by omega)
      have h2 := Int.mul_le_mul h1 (show (1 : Int) ≤ P by omega) (by omega) (by omega)
      omega
    rw [honda_at (by omega) (by omega) (.inr rfl), ref_tab hp (by omega) (by omega) (m := (P : Int)) (v := fun i => if i = H - 1 then 1 else 0) (by omega) rfl hW2 (fun i hi => by rw [mk_at (by omega), mod_self_mod])] at h
    unfold hondaR
    rw [if_pos hg]
    exact h
  · unfold hondaR
    rw [if_neg hg]
    exact sHondaLaw_bad p h n w (by simpa using hg)
end Go.Proofs.Ytoednonijmkbjaa
