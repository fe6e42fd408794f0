/- Lemmas of LwY. -/
import Derived.Test.YtcjinlfgeljmkaaWTLwT
import Derived.Test.YtcjinlfgeljmkaaWTPlaE
import Derived.Test.YtcjinlfgeljmkaaWTPlaW
import Derived.Test.YtcjinlfgeljmkaaWTSubC
set_option linter.unusedSimpArgs false
set_option linter.unusedVariables false
namespace Go.Proofs.Ytcjinlfgeljmkaa
open Go.RowKit
open Rg

def IsP (m : Int) (n : Nat) (t : List (List Int)) : Prop := plaB m t = true ∧ t.length = n
theorem IsP.m {m : Int} {n : Nat} {t : List (List Int)} (h : IsP m n t) : 2 ≤ m ∧ m ≤ 10000 := pla_m h.1
theorem IsP.n {m : Int} {n : Nat} {t : List (List Int)} (h : IsP m n t) : 2 ≤ n ∧ n ≤ 11 := by have := pla_n h.1; rw [h.2] at this; exact this
theorem IsP.t {m : Int} {n : Nat} {t : List (List Int)} (h : IsP m n t) : PlaT m n t := ⟨h.2, pla_row h.1⟩
theorem isP_mk {m : Int} {n : Nat} {t : List (List Int)} (hm : 2 ≤ m ∧ m ≤ 10000) (hn : 2 ≤ n ∧ n ≤ 11) (h : PlaT m n t) : IsP m n t := by
  obtain ⟨hl, hr⟩ := h
  refine ⟨?_, hl⟩
  have e1 : rowsB m t = true := rowsB_t fun j hj => by
    have h1 := hr j hj
    have e2 : numsB m t[j] = true := by
      simp only [numsB, List.all_eq_true]
      intro x hx
      have := h1.2 x hx
      exact inB_mk (by omega) (by omega)
    simp [rowB, h1.1, e2]
  have e2 : inB ((t.length : Int) - 1) 1 10 = true := inB_mk (by omega) (by omega)
  have e3 : modB m = true := inB_mk (by omega) (by omega)
  simp [plaB, e1, e2, e3]
theorem twoP_ok {m : Int} {n : Nat} {a b : List (List Int)} (ha : IsP m n a) (hb : IsP m n b) : twoP m a m b = 0 := by
  simp [twoP, alikeP, ha.1, hb.1, ha.2, hb.2]
theorem two_IsP {m q : Int} {a b : List (List Int)} (h : twoP m a q b = 0) : q = m ∧ IsP m a.length a ∧ IsP m a.length b := by
  obtain ⟨h1, h2, h3, h4⟩ := twoP_0 h
  subst h3
  exact ⟨rfl, ⟨h1, rfl⟩, ⟨h2, h4⟩⟩
theorem mulP_code {m q : Int} {a b : List (List Int)} (h : (mulPR m a q b).code = 0) : twoP m a q b = 0 := by
  unfold mulPR at h
  by_cases h1 : twoP m a q b = 0
  · exact h1
  · rw [if_neg h1] at h; exact h
theorem IsP.times {m : Int} {n : Nat} {a b : List (List Int)} (ha : IsP m n a) (hb : IsP m n b) : mulPR m a m b = ⟨m, timesT m n a b, 0⟩ ∧ IsP m n (timesT m n a b) :=
  ⟨by simp [mulPR, twoP_ok ha hb, ha.2], isP_mk ha.m ha.n (timesT_ok (by have := ha.m; omega) n a b)⟩
theorem IsP.add {m : Int} {n : Nat} {a b : List (List Int)} (ha : IsP m n a) (hb : IsP m n b) : addPR m a m b = ⟨m, addT m n a b, 0⟩ ∧ IsP m n (addT m n a b) :=
  ⟨by simp [addPR, twoP_ok ha hb, ha.2], isP_mk ha.m ha.n (addT_ok (by have := ha.m; omega) n a b)⟩
theorem turnT_ok {m : Int} {n : Nat} {t : List (List Int)} (hm : 0 < m) (h : t.length = n) : PlaT m n (turnT m t) := by
  subst h; exact tri_ok fun _ _ _ => mod_lt' hm
theorem IsP.turn {m : Int} {n : Nat} {t : List (List Int)} (h : IsP m n t) : turnPR m t = ⟨m, turnT m t, 0⟩ ∧ IsP m n (turnT m t) :=
  ⟨by simp [turnPR, h.1], isP_mk h.m h.n (turnT_ok (by have := h.m; omega) h.2)⟩
theorem turn_turn {m : Int} {n : Nat} {t : List (List Int)} (h : IsP m n t) : turnT m (turnT m t) = t := by
  have hm : 0 < m := by have := h.m; omega
  have ho : PlaT m n (turnT m t) := turnT_ok hm h.2
  refine tab_eq (turnT_ok hm ho.1) h.t (eqv2.2 fun i j hij => ?_)
  have e1 : atT (turnT m (turnT m t)) i j = atT (turnT m t) j i % m := by
    show atT (tri (turnT m t).length _) i j = _
    rw [atT_tri (by rw [ho.1]; exact hij)]
  have e2 : atT (turnT m t) j i = atT t i j % m := by
    show atT (tri t.length _) j i = _
    rw [atT_tri (by rw [h.2]; omega)]
  rw [e1, e2, mod_self_mod, mod_self_mod]
theorem IsP.par {m : Int} {n : Nat} {t : List (List Int)} (h : IsP m (n + 1) t) (h2 : 2 ≤ n) {k : Int} (hk : k = 0 ∨ k = 1) : parPR m t k = ⟨m, parT m k t, 0⟩ ∧ IsP m n (parT m k t) := by
  have hl := h.2
  have e : inB k 0 1 = true := by rcases hk with rfl | rfl <;> rfl
  refine ⟨by simp [parPR, h.1, e, show ¬ t.length = 2 by omega], isP_mk h.m (by have := h.n; omega) ?_⟩
  unfold parT
  rw [hl, Nat.add_sub_cancel]
  exact tri_ok fun _ _ _ => mod_lt' (by have := h.m; omega)
theorem parT_at {m : Int} {n : Nat} {t : List (List Int)} (hl : t.length = n + 1) (k : Int) {i j : Nat} (h : i + j < n) : atT (parT m k t) i j = parF t k i j % m := by
  unfold parT
  rw [hl, Nat.add_sub_cancel, atT_tri h]
theorem par_par {m : Int} {n : Nat} {t : List (List Int)} (h : IsP m (n + 1 + 1) t) (h2 : 2 ≤ n) : parT m 1 (parT m 0 t) = parT m 0 (parT m 1 t) := by
  have hx := (h.par (by omega) (k := 0) (.inl rfl)).2
  have hy := (h.par (by omega) (k := 1) (.inr rfl)).2
  refine tab_eq (hx.par h2 (.inr rfl)).2.t (hy.par h2 (.inl rfl)).2.t (eqv2.2 fun i j hij => ?_)
  rw [parT_at hx.2 1 hij, parT_at hy.2 0 hij]
  simp only [parF, show ¬ (1 : Int) = 0 by omega, if_false, if_true]
  rw [parT_at h.2 0 (by omega), parT_at h.2 1 (by omega)]
  simp only [parF, show ¬ (1 : Int) = 0 by omega, if_false, if_true]
  have a1 : (((j : Int) + 1) * ((((i : Int) + 1) * atT t (i + 1) (j + 1)) % m)) % m = (((j : Int) + 1) * (((i : Int) + 1) * atT t (i + 1) (j + 1))) % m := emod_congr_mul rfl (mod_self_mod _ _)
  have a2 : (((i : Int) + 1) * ((((j : Int) + 1) * atT t (i + 1) (j + 1)) % m)) % m = (((i : Int) + 1) * (((j : Int) + 1) * atT t (i + 1) (j + 1))) % m := emod_congr_mul rfl (mod_self_mod _ _)
  rw [a1, a2]
  congr 2
  grind
theorem timesT_comm {m : Int} {n : Nat} {a b : List (List Int)} (hm : 0 < m) : timesT m n a b = timesT m n b a :=
  tab_eq (timesT_ok hm n a b) (timesT_ok hm n b a) (eqv_trans (T_times _ _ _ _) (eqv_trans (eqv_of (ml_comm _ _)) (eqv_symm (T_times _ _ _ _))))
theorem timesT_dist {m : Int} {n : Nat} {a b c : List (List Int)} (hm : 0 < m) : timesT m n (addT m n a b) c = addT m n (timesT m n a c) (timesT m n b c) := by
  refine tab_eq (timesT_ok hm n _ _) (addT_ok hm n _ _) ?_
  refine eqv_trans (T_times _ _ _ _) (eqv_trans (eqv_mlr _ (T_add _ _ _ _)) ?_)
  rw [ad_ml]
  exact eqv_symm (eqv_trans (T_add _ _ _ _) (eqv_ad (T_times _ _ _ _) (T_times _ _ _ _)))
theorem pla_ring {m : Int} {n : Nat} {a b : List (List Int)} (ha : IsP m n a) (hb : IsP m n b) : ∃ T A Q L O, timesT m n a b = T ∧ addT m n a b = A ∧ IsP m n T ∧
    mulPR m b m a = ⟨m, T, 0⟩ ∧ mulPR m b m b = ⟨m, Q, 0⟩ ∧ mulPR m A m b = ⟨m, L, 0⟩ ∧ addPR m T m Q = ⟨m, L, 0⟩ ∧ turnPR m a = ⟨m, O, 0⟩ ∧ turnPR m O = ⟨m, a, 0⟩ := by
  have hm : 0 < m := by have := ha.m; omega
  have hT := (ha.times hb).2
  have hA := (ha.add hb).2
  have hQ := hb.times hb
  refine ⟨_, _, _, _, _, rfl, rfl, hT, ?_, hQ.1, (hA.times hb).1, ?_, ha.turn.1, ?_⟩
  · rw [(hb.times ha).1, timesT_comm hm]
  · rw [(hT.add hQ.2).1, timesT_dist hm]
  · rw [ha.turn.2.turn.1, turn_turn ha]
theorem pla_par {m : Int} {n : Nat} {a : List (List Int)} (ha : IsP m n a) (h4 : 3 < n) : ∃ X Y Z, parPR m a 0 = ⟨m, X, 0⟩ ∧ parPR m X 1 = ⟨m, Z, 0⟩ ∧ parPR m a 1 = ⟨m, Y, 0⟩ ∧ parPR m Y 0 = ⟨m, Z, 0⟩ := by
  obtain ⟨k, rfl⟩ : ∃ k, n = k + 1 + 1 := ⟨n - 2, by omega⟩
  have hx := ha.par (by omega) (k := 0) (.inl rfl)
  have hy := ha.par (by omega) (k := 1) (.inr rfl)
  refine ⟨_, _, _, hx.1, (hx.2.par (by omega) (.inr rfl)).1, hy.1, ?_⟩
  rw [(hy.2.par (by omega) (.inl rfl)).1, par_par ha (by omega)]
theorem IsP.put {m : Int} {n : Nat} {t : List (List Int)} {a b : List Int} (h : IsP m n t) (ha : IsS m n a) (hb : IsS m n b) (a0 : at0 a 0 = 0) (b0 : at0 b 0 = 0) : subCR m t m a m b = ⟨m, putL m n t a b, 0⟩ ∧ IsS m n (putL m n t a b) := by
  have c1 : curB m a = true := by simp [curB, ha.1, a0]
  have c2 : curB m b = true := by simp [curB, hb.1, b0]
  have hf : fitR m t [(m, a), (m, b)] = 0 := by simp [fitR, h.1, ha.1, hb.1, fitB, h.2, ha.2, hb.2]
  have hc : subC m t m a m b = 0 := by simp [subC, hf, c1, c2]
  exact ⟨by simp [subCR, hc, h.2], isS_mk h.m h.n (putTo_len _ _ _ _ _ _ _) (putTo_range (by have := h.m; omega))⟩
theorem pla_put {m : Int} {n : Nat} {f g : List (List Int)} {a b : List Int} (hf : IsP m n f) (hg : IsP m n g) (ha : IsS m n a) (hb : IsS m n b) (a0 : at0 a 0 = 0) (b0 : at0 b 0 = 0) :
    ∃ U V W, subCR m f m a m b = ⟨m, U, 0⟩ ∧ subCR m g m a m b = ⟨m, V, 0⟩ ∧ subCR m (timesT m n f g) m a m b = ⟨m, W, 0⟩ ∧ mulR m U m V = ⟨m, W, 0⟩ := by
  have hm : 0 < m := by have := hf.m; omega
  have hT := (hf.times hg).2
  have hU := hf.put ha hb a0 b0
  have hV := hg.put ha hb a0 b0
  have hW := hT.put ha hb a0 b0
  refine ⟨_, _, _, hU.1, hV.1, hW.1, ?_⟩
  rw [(hU.2.times hV.2).1]
  congr 1
  have la := lo_at0 (m := m) a0
  have lb := lo_at0 (m := m) b0
  refine list_eq (timesL_len _ _ _ _) hW.2.2 (timesL_range hm) hW.2.x ?_
  refine eqv_trans (L_times _ _ _ _) (eqv_trans (eqv_ml (L_put hf.t a b) (L_put hg.t a b)) ?_)
  refine eqv_trans (eqv_symm ((hm2 (n := n) la lb).ml (atT f) (atT g))) ?_
  refine eqv_trans ?_ (eqv_symm (L_put hT.t a b))
  exact (hm2 (n := n) la lb).eqv (Nat.le_refl _) (eqv_symm (T_times m n f g))
theorem curve_of {m : Int} {n : Nat} {xs : List Int} (hm : 2 ≤ m ∧ m ≤ 10000) (hn : 2 ≤ n ∧ n ≤ 11) (hl : xs.length = n - 1) (hx : ∀ x ∈ xs, 0 ≤ x ∧ x < m) : IsS m n (0 :: xs) ∧ at0 (0 :: xs) 0 = 0 :=
  ⟨isS_mk hm hn (by simp [hl]; omega) (fun x h => by rcases List.mem_cons.1 h with rfl | h; omega; exact hx x h), rfl⟩
end Go.Proofs.Ytcjinlfgeljmkaa
