/- Lemmas of TyT. -/
import Derived.Test.YtoednonijmkbjaaQTyS
set_option linter.unusedSimpArgs false
set_option linter.unusedVariables false
namespace Go.Proofs.Ytoednonijmkbjaa
open Go.RowKit
open Rg

theorem lwF_sup (W : Int) (n p M : Nat) (ns : List Int) : ∀ d i j, d + 2 ≤ i + j → lwF W n p M ns d i j = 0
  | 0, i, j, h => by unfold lwF; rw [if_neg (by omega)]
  | d + 1, i, j, h => by
    unfold lwF
    rw [if_neg (by omega)]
    exact lwF_sup W n p M ns d i j (by omega)
theorem lw_step {m P c x : Int} (hm : 0 < m) (hP : 0 < P) (p : Int) (hp : 0 < p) (h0 : 0 ≤ x) (h1 : x < m * P * p) (h : x % (m * P * p) = (P * c) % (m * P * p)) : (-(x / P)) % (m * P * p) % (m * p) = (-c) % (m * p) := by
  have e : m * P * p = P * (m * p) := by rw [Int.mul_comm m P, Int.mul_assoc]
  rw [Int.emod_eq_of_lt h0 h1] at h
  rw [e, Int.mul_emod_mul_of_pos _ _ hP] at h
  rw [h, Int.mul_ediv_cancel_left _ (by omega), e, Int.emod_emod_of_dvd _ (Int.dvd_mul_left _ _)]
  rw [← Int.zero_sub, ← Int.zero_sub c]
  exact emod_congr_sub rfl (mod_self_mod _ _)
theorem lw_ty {p M n : Nat} {v ν : Nat → Int} (H : TyL p M (tyl p M v) ν) {m W : Int} (hm : 2 ≤ m) (hW : W = m * ((p ^ M : Nat) : Int) * p) (hW2 : 2 ≤ W) {ns : List Int} (hns : ∀ i, i ≤ M → at0 ns i % W = num p v i % W) (hn : n + 1 ≤ p ^ (M + 1)) :
    ∀ d, d + 1 ≤ n → ∀ i j, lwF W n p M ns d i j % (m * p) = tyF p M (tyl p M v) d i j % (m * p)
  | 0, _, i, j => by
    show (if i + j = 1 then (1 : Int) else 0) % _ = (xP i j + yP i j) % _
    rw [xP_at, yP_at]
    by_cases a : i + j = 1
    · rw [if_pos a]
      by_cases b : i = 1
      · rw [if_pos ⟨b, by omega⟩, if_neg (by omega)]; rfl
      · rw [if_neg (by omega), if_pos ⟨by omega, by omega⟩]; rfl
    · rw [if_neg a, if_neg (by omega), if_neg (by omega)]; rfl
  | d + 1, hd, i, j => by
    have ih := lw_ty H hm hW hW2 hns hn d (by omega)
    have hp2 := H.pr.pos
    by_cases hij : i + j = d + 2
    · by_cases hb : 1 ≤ i ∧ i < d + 2
      · have hP : 0 < ((p ^ M : Nat) : Int) := by have := Nat.one_le_pow M p (by omega); omega
        have hD := DP_dvd H (show 1 ≤ d + 2 by omega) (by omega) (tyF_0 p M _ d) (tyF_ok H d (by omega))
        obtain ⟨c, hc⟩ := lo2_iff.1 hD i j (by omega)
        have hT := T_DP (d + 3) p M (by omega) v ns hns (cutT (d + 3) (tri (n + 1) (lwF W n p M ns d)))
        have hE : eqv (m * p) (d + 3) (atT (cutT (d + 3) (tri (n + 1) (lwF W n p M ns d)))) (tyF p M (tyl p M v) d) := eqv2.2 fun a b hab => by
          unfold cutT
          rw [atT_tri hab, atT_tri (by omega)]
          exact ih a b
        have hq : m * (p : Int) ^ M * p = W := by rw [hW, Int.natCast_pow]
        have hDE := DP_eqv H m hE
        rw [hq] at hDE
        have hT2 := eqv_trans hT hDE
        have hx := eqv2.1 hT2 i j (by omega)
        have rx := tab_range (resT_ok hW2 (d + 3) p M ns (cutT (d + 3) (tri (n + 1) (lwF W n p M ns d))) (M + 1)) (show i + j < d + 3 by omega)
        have e1 : lwF W n p M ns (d + 1) i j = (-(atT (resT W (d + 3) p M ns (cutT (d + 3) (tri (n + 1) (lwF W n p M ns d))) (M + 1)) i j / ((p ^ M : Nat) : Int))) % W := by
          show (if i + j = d + 2 ∧ 1 ≤ i ∧ i < d + 2 then _ else _) = _
          rw [if_pos ⟨hij, hb⟩]
        have e2 : tyF p M (tyl p M v) (d + 1) i j = -c := by
          show tyF p M (tyl p M v) d i j + tyE p M (tyl p M v) (d + 2) (tyF p M (tyl p M v) d) i j = _
          unfold tyE
          rw [tyF_sup p M _ d i j (by omega), if_pos hij, hc, ← Int.natCast_pow, Int.mul_ediv_cancel_left _ (by omega), Int.zero_add]
        rw [e1, e2]
        generalize atT (resT W (d + 3) p M ns (cutT (d + 3) (tri (n + 1) (lwF W n p M ns d))) (M + 1)) i j = x at hx rx
        rw [hc, ← Int.natCast_pow] at hx
        rw [hW] at hx rx ⊢
        exact lw_step (by omega) hP _ (by omega) rx.1 rx.2 hx
      · have e1 : lwF W n p M ns (d + 1) i j = 0 := by
          show (if i + j = d + 2 ∧ 1 ≤ i ∧ i < d + 2 then _ else _) = _
          rw [if_neg (fun h => hb h.2)]
          exact lwF_sup W n p M ns d i j (by omega)
        rw [e1]
        by_cases h0 : i = 0
        · subst h0
          rw [tyF_row (by omega), yP_at, if_neg (by omega)]
        · obtain rfl : j = 0 := by omega
          rw [tyF_col (by omega), xP_at, if_neg (by omega)]
    · have e1 : lwF W n p M ns (d + 1) i j = lwF W n p M ns d i j := by
        show (if i + j = d + 2 ∧ 1 ≤ i ∧ i < d + 2 then _ else _) = _
        rw [if_neg (fun h => hij h.1)]
      rw [e1, tyF_low p M _ d i j hij]
      exact ih i j
end Go.Proofs.Ytoednonijmkbjaa
