/- Lemmas of HomP. -/
import Derived.Test.YtdnkadlondediaaQcRgB
import Derived.Test.YtdnkadlondediaaQcG1
set_option linter.unusedSimpArgs false
set_option linter.unusedVariables false
namespace Go.Proofs.Ytdnkadlondediaa
open Rg

theorem ev1_cut {T : Type} [Rg T] {m : Int} {n k : Nat} (f : Nat → Int) {a : T} (ha : lo m 1 a) (hk : k ≤ n) : eqv m k (ev1 n f a) (ev1 k f a) := by
  obtain ⟨d, rfl⟩ : ∃ d, n = k + d := ⟨n - k, by omega⟩
  unfold ev1 ex
  rw [sm_split]
  refine eqv_trans (eqv_ad eqv_rfl (eqv_lo (sm_lo fun i _ => lo_mul _ (lo_le (pw_lo ha (k + i)) (by omega))))) (eqv_of (ad_zz _))
theorem ev1_eqv {T : Type} [Rg T] {m : Int} {n k : Nat} {f g : Nat → Int} {a b : T} (ha : lo m 1 a) (hk : k ≤ n) (hf : ∀ i, i < k → f i % m = g i % m) (h : eqv m k a b) : eqv m k (ev1 n f a) (ev1 n g b) := by
  refine sm_eqv fun i hi => ?_
  by_cases hik : i < k
  · exact eqv_ml (eqv_ic (hf i hik)) (pw_eqv h i)
  · have h1 : lo m k (pw a i) := lo_le (pw_lo ha i) (by omega)
    have h2 : lo m k (pw b i) := lo_eqv (eqv_symm (pw_eqv h i)) (Nat.le_refl _) h1
    exact eqv_trans (eqv_lo (lo_mul _ h1)) (eqv_symm (eqv_lo (lo_mul _ h2)))
theorem ev2_cut {T : Type} [Rg T] {m : Int} {n k : Nat} (F : Nat → Nat → Int) {a b : T} (ha : lo m 1 a) (hb : lo m 1 b) (hk : k ≤ n) : eqv m k (ev2 n F a b) (ev2 k F a b) := by
  obtain ⟨d, rfl⟩ : ∃ d, n = k + d := ⟨n - k, by omega⟩
  rw [ev2_sum, ev2_sum, sm_split]
  refine eqv_trans (eqv_ad (sm_eqv fun i _ => ?_) (eqv_lo (sm_lo fun i _ => sm_lo fun j _ => lo_mul _ (lo_le (lo_ml (pw_lo ha (k + i)) (pw_lo hb j)) (by omega))))) (eqv_of (ad_zz _))
  rw [sm_split]
  exact eqv_trans (eqv_ad eqv_rfl (eqv_lo (sm_lo fun j _ => lo_mul _ (lo_le (lo_ml (pw_lo ha i) (pw_lo hb (k + j))) (by omega))))) (eqv_of (ad_zz _))

def cutT (k : Nat) (t : List (List Int)) : List (List Int) := tri k (atT t)
theorem cutT_len (k : Nat) (t : List (List Int)) : (cutT k t).length = k := tri_len _ _
theorem cutT_ok {m : Int} {n k : Nat} {t : List (List Int)} (ht : PlaT m n t) (hk : k ≤ n) : PlaT m k (cutT k t) := tri_ok fun i j h => tab_range ht (by omega)
theorem cutT_all {m : Int} {n : Nat} {t : List (List Int)} (ht : PlaT m n t) : cutT n t = t := (tri_eq ht.1 (fun i hi => by rw [(ht.2 i hi).1, ht.1])).symm
theorem cutT_at {k : Nat} {t : List (List Int)} {i j : Nat} (h : i + j < k) : atT (cutT k t) i j = atT t i j := atT_tri h

def homT (m : Int) (n : Nat) (t s : List (List Int)) (xs : List Int) : Prop := hornT m n t xs = botL m n s xs xs
theorem homT_iff {m : Int} {n : Nat} {t s : List (List Int)} {xs : List Int} (hm : 0 < m) (ht : PlaT m n t) (hs : PlaT m n s) (h0 : at0 xs 0 = 0) (hl : xs.length = n) (ht0 : atT t 0 0 = 0) :
    homT m n t s xs ↔ eqv m n (ev1 n (at0 xs) (atT t)) (ev2 n (atT s) (onx (at0 xs)) (ony (at0 xs))) := by
  have e1 := T_horn (m := m) (n := n) t xs (by omega)
  have e2 := T_bot hs xs xs
  constructor
  · intro h
    rw [h] at e1
    exact eqv_trans (eqv_symm e1) e2
  · intro h
    exact tab_eq (hornT_ok hm _ _ _) (botTo_ok hm _ _ _ _ _ _) (eqv_trans e1 (eqv_trans h (eqv_symm e2)))
theorem lo_atT {m : Int} {t : List (List Int)} (h : atT t 0 0 = 0) : lo m 1 (atT t) := fun i => by
  by_cases hi : i = 0
  · subst hi
    exact lo_fun fun j hj => by rw [show j = 0 by omega]; exact h
  · rw [show 1 - i = 0 by omega]; exact lo_0 _ _
theorem homT_cut {m : Int} {n k : Nat} {t s : List (List Int)} {xs : List Int} (hm : 0 < m) (ht : PlaT m n t) (hs : PlaT m n s) (h0 : at0 xs 0 = 0) (hl : xs.length = n) (ht0 : atT t 0 0 = 0) (hk : k ≤ n) (hk1 : 1 ≤ k) (h : homT m n t s xs) :
    homT m k (cutT k t) (cutT k s) (xs.take k) := by
  have hx0 : at0 (xs.take k) 0 = 0 := by rw [at0_take (by omega)]; exact h0
  have hc0 : atT (cutT k t) 0 0 = 0 := by rw [cutT_at (by omega)]; exact ht0
  rw [homT_iff hm (cutT_ok ht hk) (cutT_ok hs hk) hx0 (by simp; omega) hc0]
  have h := (homT_iff hm ht hs h0 hl ht0).1 h
  have lF : lo m 1 (atT t) := lo_atT ht0
  have lX : lo m 1 (onx (at0 xs)) := lo_onx h0
  have lY : lo m 1 (ony (at0 xs)) := lo_ony h0
  have lFc : lo m 1 (atT (cutT k t)) := lo_atT hc0
  have lXc : lo m 1 (onx (at0 (xs.take k))) := lo_onx hx0
  have lYc : lo m 1 (ony (at0 (xs.take k))) := lo_ony hx0
  have eT : eqv m k (atT (cutT k t)) (atT t) := eqv2.2 fun i j hij => by rw [cutT_at hij]
  have eX : eqv m k (onx (at0 (xs.take k))) (onx (at0 xs)) := eqv2.2 fun i j hij => by unfold onx; rw [at0_take (show i < k by omega)]
  have eY : eqv m k (ony (at0 (xs.take k))) (ony (at0 xs)) := eqv2.2 fun i j hij => by unfold ony; rw [at0_take (show j < k by omega)]
  have e1 : eqv m k (ev1 k (at0 (xs.take k)) (atT (cutT k t))) (ev1 n (at0 xs) (atT t)) :=
    eqv_trans (ev1_eqv lFc (Nat.le_refl _) (fun i hi => by rw [at0_take hi]) eT) (eqv_symm (ev1_cut _ lF hk))
  have e2 : eqv m k (ev2 k (atT (cutT k s)) (onx (at0 (xs.take k))) (ony (at0 (xs.take k)))) (ev2 n (atT s) (onx (at0 xs)) (ony (at0 xs))) :=
    eqv_trans (ev2_eqv lXc lYc (Nat.le_refl _) (fun i j hij => by rw [cutT_at hij]) eX eY) (eqv_symm (ev2_cut _ lX lY hk))
  exact eqv_trans e1 (eqv_trans (eqv_le h hk) (eqv_symm e2))

def allC (m : Nat) : Nat → List Int → List (List Int)
  | 0, pre => [pre]
  | d + 1, pre => (List.range m).flatMap (fun (x : Nat) => allC m d (pre ++ [(x : Int)]))
theorem allC_mem {m : Nat} : ∀ {d : Nat} {pre xs : List Int}, xs ∈ allC m d pre → xs.length = pre.length + d ∧ xs.take pre.length = pre ∧ ((∀ x ∈ pre, 0 ≤ x ∧ x < (m : Int)) → ∀ x ∈ xs, 0 ≤ x ∧ x < (m : Int))
  | 0, pre, xs, h => by
    simp [allC] at h; subst h; simp
  | d + 1, pre, xs, h => by
    obtain ⟨x, hx, h⟩ := List.mem_flatMap.1 h
    obtain ⟨h1, h2, h3⟩ := allC_mem h
    simp at h1 h2
    refine ⟨by omega, ?_, fun hp => h3 fun y hy => ?_⟩
    · have : (xs.take (pre.length + 1)).take pre.length = (pre ++ [(x : Int)]).take pre.length := by rw [h2]
      simpa [List.take_take] using this
    · rcases List.mem_append.1 hy with h | h
      · exact hp y h
      · simp at h hx; omega
def growL (m n most : Nat) (fit : List Int → Bool) : Nat → List Int → List (List Int) → List (List Int)
  | 0, pre, out => out ++ [pre]
  | d + 1, pre, out => (List.range m).foldl (fun out (c : Nat) => if out.length < most then (if fit (pre ++ [(c : Int)]) then growL m n most fit d (pre ++ [(c : Int)]) out else out) else out) out
theorem take_app {α : Type} (X Y : List α) (k : Nat) (h : (X.take k).length < k) : (X.take k ++ Y).take k = (X ++ Y).take k := by
  rw [List.length_take] at h
  rw [List.take_of_length_le (show X.length ≤ k by omega)]
theorem take_full {α : Type} (X Y : List α) (k : Nat) (h : ¬ (X.take k).length < k) : X.take k = (X ++ Y).take k := by
  rw [List.length_take] at h
  rw [List.take_append_of_le_length (by omega)]
theorem growL_eq {m n most : Nat} {fit full : List Int → Bool} {P : List Int → Prop} (hP : ∀ pre (c : Nat), P pre → P (pre ++ [(c : Int)])) (hf : ∀ d pre xs, P pre → pre.length + d = n → xs ∈ allC m d pre → full xs = true → fit pre = true) (hn : ∀ xs, P xs → xs.length = n → fit xs = full xs) :
    ∀ (d : Nat) (pre : List Int) (out : List (List Int)), P pre → pre.length + d = n → out.length < most → (d = 0 → full pre = true) → growL m n most fit d pre out = (out ++ (allC m d pre).filter full).take most
  | 0, pre, out, hp, hd, ho, h0 => by
    unfold growL allC
    rw [List.filter_cons_of_pos (by simpa using h0 rfl), List.filter_nil, List.take_of_length_le (by simp; omega)]
  | d + 1, pre, out, hp, hd, ho, h0 => by
    unfold growL allC
    have key : ∀ k, k ≤ m → (List.range k).foldl (fun out (c : Nat) => if out.length < most then (if fit (pre ++ [(c : Int)]) then growL m n most fit d (pre ++ [(c : Int)]) out else out) else out) out
        = (out ++ ((List.range k).flatMap (fun (x : Nat) => allC m d (pre ++ [(x : Int)]))).filter full).take most := by
      intro k
      induction k with
      | zero => intro _; simp [List.take_of_length_le (show out.length ≤ most by omega)]
      | succ k ih =>
        intro hk
        rw [List.range_succ, List.foldl_append, ih (by omega), List.flatMap_append, List.filter_append, ← List.append_assoc]
        simp only [List.foldl_cons, List.foldl_nil, List.flatMap_cons, List.flatMap_nil, List.append_nil]
        generalize out ++ ((List.range k).flatMap (fun (x : Nat) => allC m d (pre ++ [(x : Int)]))).filter full = X
        by_cases h : (X.take most).length < most
        · rw [if_pos h]
          cases hfit : fit (pre ++ [(k : Int)])
          · rw [if_neg (by simp)]
            have : (allC m d (pre ++ [(k : Int)])).filter full = [] := by
              rw [List.filter_eq_nil_iff]
              intro xs hxs hfull
              have := hf d (pre ++ [(k : Int)]) xs (hP pre k hp) (by simp; omega) hxs hfull
              rw [this] at hfit; cases hfit
            rw [this, List.append_nil]
          · rw [if_pos rfl, growL_eq hP hf hn d (pre ++ [(k : Int)]) (X.take most) (hP pre k hp) (by simp; omega) h (fun hd0 => by rw [← hn _ (hP pre k hp) (by simp; omega)]; exact hfit), take_app _ _ _ h]
        · rw [if_neg h]
          exact take_full _ _ _ h
    exact key m (Nat.le_refl _)
end Go.Proofs.Ytdnkadlondediaa
