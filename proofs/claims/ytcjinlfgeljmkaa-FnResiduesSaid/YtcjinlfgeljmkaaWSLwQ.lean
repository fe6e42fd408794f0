/- Lemmas of LwQ. -/
import Derived.Test.YtcjinlfgeljmkaaWSLwP
import Derived.Test.YtcjinlfgeljmkaaWSSrcD
set_option linter.unusedSimpArgs false
set_option linter.unusedVariables false
namespace Go.Proofs.Ytcjinlfgeljmkaa
open Go.RowKit

theorem DW.to {B n b C : Nat} {w0 w : World} (h : DW B n b w0 w) (hC : C ≤ b) : Below C w0 w := Chg.below (Below.refl C w0) h.chg hC (by have := h.lt; omega)
theorem Wt.P {p m : Int} {n : Nat} {xs : List Int} (h : Wt p m n xs) : P4 p.toNat ∧ (p.toNat : Int) = p := witt_P4 h.ok
theorem Wt.res {p : Int} {n : Nat} {xs : List Int} (h : Wt p p n xs) : residR p p xs = ⟨resV p.toNat xs, 0⟩ := by
  obtain ⟨_, e⟩ := h.P
  simp [residR, h.ok, resV, e]
theorem res_range {p : Int} {n : Nat} {xs : List Int} (h : Wt p p n xs) : 0 ≤ resV p.toNat xs ∧ resV p.toNat xs < p ^ n := by
  obtain ⟨hP, e⟩ := h.P
  have hp : 0 < (p.toNat : Int) := by rw [e]; exact h.pos
  unfold resV
  rw [h.len]
  have := mod_lt' (a := gh p.toNat (at0 xs) (n - 1)) (show 0 < (p.toNat : Int) ^ n from pow_pos' (by omega) n)
  rw [e] at this ⊢
  exact this
theorem wres_Wt {p n k : Int} (h : (shapeB p p n && inB k 0 (p ^ n.toNat - 1)) = true) :
    ∃ X, wresR p n k = ⟨p, p, X, 0⟩ ∧ Wt p p n.toNat X ∧ residR p p X = ⟨k, 0⟩ := by
  have h' := h
  simp only [Bool.and_eq_true] at h'
  have hn := shape_n h'.1
  have hk := inB_t h'.2
  obtain ⟨q, rfl, hP⟩ := prime_nat (shape_p h'.1)
  have hq : 0 < (q : Int) := by have := shape_m h'.1; omega
  have hw : Wt (q : Int) q n.toNat (FL q q n.toNat (fun _ => k)) := by
    refine ⟨?_, FL_len _ _ _ _⟩
    simp only [wittB, Bool.and_eq_true, List.all_eq_true]
    refine ⟨by rw [FL_len, Int.toNat_of_nonneg (by omega)]; exact h'.1, fun x hx => ?_⟩
    have := FL_range hq x hx
    simp [inB]; omega
  refine ⟨_, by simp [wresR, h], hw, ?_⟩
  rw [hw.res]
  have := res_of hP (n := n.toNat) (by omega) (c := k) (by omega)
  simp only [Int.toNat_natCast]
  rw [this]
theorem wres_back {p n k P M : Int} {X : List Int} (h : wresR p n k = ⟨P, M, X, 0⟩) : P = p ∧ M = p ∧ residR p p X = ⟨k, 0⟩ := by
  cases hb : (shapeB p p n && inB k 0 (p ^ n.toNat - 1))
  · simp [wresR, hb, WR.bad] at h
  · obtain ⟨Y, e, _, hr⟩ := wres_Wt hb
    rw [e] at h
    obtain ⟨rfl, rfl, rfl, _⟩ := WR.mk.inj h
    exact ⟨rfl, rfl, hr⟩
theorem residues_all {p : Int} {n : Nat} {xa : List Int} (ha : Wt p p n xa) {r : Int} (h0 : 0 ≤ r) (h1 : r < p ^ n) :
    ∃ xu xs xt : List Int, wresR p n r = ⟨p, p, xu, 0⟩ ∧ residR p p xu = ⟨r, 0⟩ ∧ opR false p p xa p p xu = ⟨p, p, xs, 0⟩ ∧ opR true p p xa p p xu = ⟨p, p, xt, 0⟩ ∧
      residR p p xs = ⟨(resV p.toNat xa + r) % p ^ n, 0⟩ ∧ residR p p xt = ⟨resV p.toNat xa * r % p ^ n, 0⟩ := by
  obtain ⟨hP, e⟩ := ha.P
  have hn := ha.n
  have hsh : shapeB p p n = true := by
    have := ha.ok
    simp only [wittB, Bool.and_eq_true] at this
    rw [ha.len] at this
    exact this.1
  obtain ⟨X, e1, hX, e2⟩ := wres_Wt (p := p) (n := n) (k := r) (by
    simp only [Bool.and_eq_true]
    refine ⟨hsh, ?_⟩
    rw [Int.toNat_natCast]
    simp [inB]; omega)
  rw [Int.toNat_natCast] at hX
  obtain ⟨ws, es⟩ := ha.op hX false
  obtain ⟨wt, et⟩ := ha.op hX true
  have hr : resV p.toNat X = r := by
    have := hX.res
    rw [e2] at this
    exact (IR.mk.inj this).1.symm
  refine ⟨X, _, _, e1, e2, es, et, ?_, ?_⟩
  · rw [ws.res]
    have := res_op hP (n := n) (by omega) ha.len hX.len false
    rw [e] at this
    rw [this, hr]; rfl
  · rw [wt.res]
    have := res_op hP (n := n) (by omega) ha.len hX.len true
    rw [e] at this
    rw [this, hr]; rfl
theorem inv_all {p : Int} {n : Nat} {xa : List Int} (ha : Wt p p n xa) :
    (resV p.toNat xa % p = 0 ∧ invR p p xa = WR.bad 5) ∨ (resV p.toNat xa % p ≠ 0 ∧ ∃ xi xn : List Int, invR p p xa = ⟨p, p, xi, 0⟩ ∧ opR true p p xa p p xi = ⟨p, p, xn, 0⟩ ∧ residR p p xn = ⟨1, 0⟩) := by
  obtain ⟨hP, e⟩ := ha.P
  have hn := ha.n
  have hf := res_first hP (n := n - 1) (xs := xa) (by rw [ha.len]; omega)
  rw [e] at hf
  have hx0 : 0 ≤ at0 xa 0 ∧ at0 xa 0 < p := by
    have hl : 0 < xa.length := by rw [ha.len]; omega
    have e0 : at0 xa 0 = xa[0] := by unfold at0; simp [List.getD, hl]
    rw [e0]; exact ha.x _ (List.getElem_mem hl)
  rw [Int.emod_eq_of_lt hx0.1 hx0.2] at hf
  by_cases h : at0 xa 0 = 0
  · exact .inl ⟨hf.trans h, by simp [invR, ha.ok, invB, h]⟩
  · refine .inr ⟨by rw [hf]; exact h, ?_⟩
    have hw : Wt p p n (powWL p.toNat p xa (invE p.toNat xa.length)) := ha.mk' (by rw [powWL_len, ha.len]) (FL_range ha.pos)
    obtain ⟨wo, eo⟩ := ha.op hw true
    refine ⟨_, _, by simp [invR, ha.ok, invB, h], eo, ?_⟩
    rw [wo.res]
    have h1 : at0 xa 0 % (p.toNat : Int) ≠ 0 := by rw [e, Int.emod_eq_of_lt hx0.1 hx0.2]; exact h
    have := res_inv hP (n := n - 1) (xs := xa) (by rw [ha.len]; omega) h1
    rw [e] at this
    rw [this]
theorem resid_bad {p m : Int} {xs : List Int} {V K P M C : Int} {X : List Int} (h : residR p m xs = ⟨V, K⟩) (hk : K ≠ 0) (hi : invR p m xs = ⟨P, M, X, C⟩) : C ≠ 0 := by
  unfold residR at h
  unfold invR at hi
  split at h
  · rename_i hw
    rw [if_pos hw] at hi
    split at h
    · exact absurd (IR.mk.inj h).2.symm hk
    · rename_i hm
      have : invB p m xs = false := by simp only [invB]; simp at hm; simp [hm]
      rw [this] at hi
      simp [WR.bad] at hi
      omega
  · rename_i hw
    rw [if_neg hw] at hi
    simp [WR.bad] at hi
    omega
theorem resid_good {p m : Int} {xs : List Int} {V : Int} (h : residR p m xs = ⟨V, 0⟩) : m = p ∧ Wt p p xs.length xs ∧ V = resV p.toNat xs := by
  have h0 := h
  unfold residR at h
  split at h
  · rename_i hw
    split at h
    · rename_i hm
      obtain rfl : m = p := by simpa using hm
      have hW : Wt m m xs.length xs := ⟨hw, rfl⟩
      refine ⟨rfl, hW, ?_⟩
      rw [hW.res] at h0
      exact (IR.mk.inj h0).1.symm
    · simp at h
  · simp at h
theorem pow_le4 {p : Int} (h : p = 2 ∨ p = 3 ∨ p = 5 ∨ p = 7) {j : Nat} (hj : j ≤ 4) : 1 ≤ p ^ j ∧ p ^ j ≤ 2401 := by
  have h4 : j = 0 ∨ j = 1 ∨ j = 2 ∨ j = 3 ∨ j = 4 := by omega
  rcases h with rfl | rfl | rfl | rfl <;> rcases h4 with rfl | rfl | rfl | rfl | rfl <;> decide
end Go.Proofs.Ytcjinlfgeljmkaa
