/- Lemmas of TyU. -/
import Derived.Test.YtoednonijmkbjaaGreatVG10
import Derived.Test.YtoednonijmkbjaaGreatVTyP
set_option linter.unusedSimpArgs false
set_option linter.unusedVariables false
namespace Go.Proofs.YtoednonijmkbjaaGreat
open Go.RowKit
open Rg

theorem most_ok {p n : Nat} (hp : P4 p) (hn : n ≤ 10) : Most p (mostOf p n) := by
  have hnn : n = 0 ∨ n = 1 ∨ n = 2 ∨ n = 3 ∨ n = 4 ∨ n = 5 ∨ n = 6 ∨ n = 7 ∨ n = 8 ∨ n = 9 ∨ n = 10 := by omega
  refine ⟨hp, ?_⟩
  rcases hp with rfl | rfl | rfl | rfl <;>
    rcases hnn with rfl | rfl | rfl | rfl | rfl | rfl | rfl | rfl | rfl | rfl | rfl <;> decide
theorem ref_tab {p n : Nat} (hp : P4 p) (n1 : 1 ≤ n) (hn : n ≤ 10) {v : Nat → Int} {m W : Int} (hm : 2 ≤ m) (hW : W = m * ((p ^ mostOf p n : Nat) : Int) * p) (hW2 : 2 ≤ W) {ns : List Int} (hns : ∀ i, i ≤ mostOf p n → at0 ns i % W = num p v i % W) :
    tri (n + 1) (fun i j => lwF W n p (mostOf p n) ns (n - 1) i j % m) = tri (n + 1) (fun i j => tyF p (mostOf p n) (tyl p (mostOf p n) v) (n - 1) i j % m) := by
  obtain ⟨ν, H⟩ := tyl_ok (most_ok hp hn) v
  have k := (most_key hp hn (Nat.le_refl (mostOf p n))).2.2.1
  refine tri_ext fun i j _ => ?_
  have h := lw_ty H hm hW hW2 hns (Nat.lt_of_not_le fun h => Nat.lt_irrefl _ (k.1 h)) (n - 1) (by omega) i j
  have h2 := congrArg (· % m) h
  simp only [Int.emod_emod_of_dvd _ (Int.dvd_mul_right m p)] at h2
  exact h2
theorem serK_1 {p : Nat} (hp : 2 ≤ p) (v : Nat → Int) : ∀ k, serK p v (k + 1) 1 = 1
  | 0 => by
    show 0 + (if 1 = p ^ 0 then cK p v 0 else 0) = 1
    rw [if_pos (by rw [Nat.pow_zero])]
    unfold cK
    rw [num_0, Nat.pow_zero]; rfl
  | k + 1 => by
    show serK p v (k + 1) 1 + (if 1 = p ^ (k + 1) then cK p v (k + 1) else 0) = 1
    rw [serK_1 hp v k, if_neg (by have := pow_gt hp (k + 1); omega)]; rfl
theorem prog_tab {p n : Nat} (hp : P4 p) (n1 : 1 ≤ n) (hn : n ≤ 10) (v : Nat → Int) {m W : Int} (hm : 2 ≤ m) (hW : W = m * ((p ^ (n - 1) : Nat) : Int)) (hW2 : 2 ≤ W) :
    tri (n + 1) (fun i j => atT (lawT W (n + 1) (mk (n + 1) (fun i => serK p v (mostOf p n + 1) i % W))) i j / ((p ^ (i + j - 1) : Nat) : Int) % m) = tri (n + 1) (fun i j => tyF p (mostOf p n) (tyl p (mostOf p n) v) (n - 1) i j % m) := by
  have hp2 := hp.pos
  have k := (most_key hp hn (Nat.le_refl (mostOf p n))).2.2.1
  have hM : p ^ mostOf p n < n + 1 := by
    by_cases k0 : mostOf p n = 0
    · rw [k0, Nat.pow_zero]; omega
    · have h := (most_key hp hn (show mostOf p n - 1 ≤ mostOf p n by omega)).2.2.1.2 (by omega)
      rw [show mostOf p n - 1 + 1 = mostOf p n by omega] at h
      omega
  obtain ⟨F, hFe, h0, hL⟩ := ty_ex (most_ok hp hn) v (n := n + 1) (by omega) (Nat.lt_of_not_le fun h => Nat.lt_irrefl _ (k.1 h))
  rw [show n + 1 - 2 = n - 1 by omega] at hFe
  have hl := ty_law hp v (by omega) hM hW2 h0 hL (xs := mk (n + 1) (fun i => serK p v (mostOf p n + 1) i % W)) (mk_len _ _) (by
    intro x hx'
    simp only [mk, List.mem_map] at hx'
    obtain ⟨a, _, rfl⟩ := hx'
    exact mod_lt' (by omega)) (fun i hi => by rw [mk_at hi, mod_self_mod]; rfl) (by rw [mk_at (by omega), serK_z hp2.1, Int.zero_emod]) (by rw [mk_at (by omega), serK_1 hp2.1, Int.emod_eq_of_lt (by omega) (by omega)])
  refine tri_ext fun i j h => ?_
  have e := eqv2.1 hl i j h
  have r := tab_range (hornT_ok (show 0 < W by omega) (n + 1) (twoT (n + 1) (mk (n + 1) (fun i => serK p v (mostOf p n + 1) i % W))) (revL W (n + 1) (mk (n + 1) (fun i => serK p v (mostOf p n + 1) i % W)))) h
  rw [Int.emod_eq_of_lt r.1 r.2] at e
  unfold lawT
  rw [e, ← hFe]
  unfold hF
  rw [hW, Int.natCast_pow, Int.natCast_pow]
  exact typ_cell hp2.1 (by omega) (by omega) _
end Go.Proofs.YtoednonijmkbjaaGreat
