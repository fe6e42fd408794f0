/- Lemmas of Crd. -/
import Derived.Test.YtdnkadlondediaaQbRgB
set_option linter.unusedSimpArgs false
set_option linter.unusedVariables false
namespace Go.Proofs.Ytdnkadlondediaa
open Rg

def monL (n k : Nat) (c : Int) : List Int := (List.replicate n 0).set k c
theorem monL_len (n k : Nat) (c : Int) : (monL n k c).length = n := by simp [monL]
theorem monL_range {m : Int} (hm : 0 < m) {n k : Nat} {c : Int} (hc : 0 ≤ c ∧ c < m) : ∀ x ∈ monL n k c, 0 ≤ x ∧ x < m := by
  intro x hx
  rcases List.mem_or_eq_of_mem_set hx with h | rfl
  · simp at h; omega
  · exact hc
theorem monL_at {n k : Nat} (c : Int) (hk : k < n) : at0 (monL n k c) = mon k c := by
  funext i
  unfold monL mon
  rw [at0_set, at0_rep, List.length_replicate]
  by_cases h : i = k
  · rw [if_pos ⟨h, by omega⟩, if_pos h]
  · rw [if_neg (fun e => h e.1), if_neg h]
def crvTo (m : Int) (n : Nat) (t : List (List Int)) (l : List Int) : Nat → List Int
  | 0 => List.replicate n 0
  | k + 1 => putL m n t (crvTo m n t l k) (monL n (k + 1) (at0 l k))
def crvL (m : Int) (n : Nat) (t : List (List Int)) (l : List Int) : List Int := crvTo m n t l l.length
theorem crvTo_len (m : Int) (n : Nat) (t : List (List Int)) (l : List Int) (k : Nat) : (crvTo m n t l k).length = n := by
  cases k with
  | zero => simp [crvTo]
  | succ k => exact putTo_len _ _ _ _ _ _ _
theorem crvTo_range {m : Int} (hm : 0 < m) (n : Nat) (t : List (List Int)) (l : List Int) (k : Nat) : ∀ x ∈ crvTo m n t l k, 0 ≤ x ∧ x < m := by
  cases k with
  | zero => intro x hx; simp [crvTo] at hx; omega
  | succ k => exact putTo_range hm
theorem crvTo_cong {m : Int} {n : Nat} {t : List (List Int)} {l l' : List Int} (k : Nat) (h : ∀ i, i < k → at0 l i = at0 l' i) : crvTo m n t l k = crvTo m n t l' k := by
  induction k with
  | zero => rfl
  | succ k ih => unfold crvTo; rw [ih fun i hi => h i (by omega), h k (by omega)]
theorem at0_apx {l : List Int} {x : Int} {i : Nat} (h : i < l.length) : at0 (l ++ [x]) i = at0 l i := by
  unfold at0 List.getD; rw [List.getElem?_append_left h]
theorem at0_end {l : List Int} {x : Int} {i : Nat} (h : i = l.length) : at0 (l ++ [x]) i = x := by
  subst h; simp [at0, List.getD]

def cuA (m : Int) (n : Nat) (t : List (List Int)) (a : List Int) : Nat → List Int
  | 0 => a
  | k + 1 => putL m n t (cuA m n t a k) (horn m n (monL n (k + 1) (at0 (cuA m n t a k) (k + 1))) (invL m n t))
def cuL (m : Int) (n : Nat) (t : List (List Int)) (a : List Int) : Nat → List Int
  | 0 => []
  | k + 1 => cuL m n t a k ++ [(at0 a (k + 1) - at0 (crvL m n t (cuL m n t a k)) (k + 1)) % m]
theorem cuL_len (m : Int) (n : Nat) (t : List (List Int)) (a : List Int) (k : Nat) : (cuL m n t a k).length = k := by
  induction k with
  | zero => rfl
  | succ k ih => simp [cuL, ih]
theorem cuL_range {m : Int} (hm : 0 < m) (n : Nat) (t : List (List Int)) (a : List Int) (k : Nat) : ∀ x ∈ cuL m n t a k, 0 ≤ x ∧ x < m := by
  induction k with
  | zero => intro x hx; simp [cuL] at hx
  | succ k ih =>
    intro x hx
    rcases List.mem_append.1 hx with h | h
    · exact ih x h
    · simp at h; subst h; exact mod_lt' hm
theorem cuA_len {m : Int} {n : Nat} {t : List (List Int)} {a : List Int} (ha : a.length = n) (k : Nat) : (cuA m n t a k).length = n := by
  cases k with
  | zero => exact ha
  | succ k => exact putTo_len _ _ _ _ _ _ _
theorem cuA_range {m : Int} (hm : 0 < m) {n : Nat} {t : List (List Int)} {a : List Int} (ha : ∀ x ∈ a, 0 ≤ x ∧ x < m) (k : Nat) : ∀ x ∈ cuA m n t a k, 0 ≤ x ∧ x < m := by
  cases k with
  | zero => exact ha
  | succ k => exact putTo_range hm
theorem opp_low {m : Int} {n j : Nat} {t : List (List Int)} (L : Lw m n (atT t)) (ht : PlaT m n t) {a : Nat → Int} (ha : lo m j a) (hj : 1 ≤ j) (hn : j + 1 ≤ n) : eqv m (j + 1) (ev1 n (at0 (invL m n t)) a) (ng a) := by
  have ha1 : lo m 1 a := lo_le ha hj
  have h2 := L.two
  have h0 : lo m 1 (at0 (invL m n t)) := lo_at0 (invTo_0 _ _ _ _)
  have H := hm1 (n := n) ha1
  -- what the inverse begins with is at least as late
  have hl : lo m j (ev1 n (at0 (invL m n t)) a) := by
    unfold ev1 ex
    refine sm_lo fun i _ => ?_
    cases i with
    | zero =>
      rw [show at0 (invL m n t) 0 = 0 from invTo_0 _ _ _ _, ic_0, zz_ml]; exact lo_zz _ _
    | succ i =>
      refine lo_mul _ ?_
      show lo m j (ml (pw a i) a)
      have := lo_ml (lo_0 m (pw a i)) ha
      rwa [Nat.zero_add] at this
  have e := ev2_low L ha1 hl hj hn (Nat.le_refl _)
  have o := eqv_le (ev2_opp L ht ha1) hn
  have h := eqv_trans (eqv_symm e) o
  -- a + opp = 0
  have h' := eqv_ad (eqv_rfl (x := ng a)) h
  rw [← ad_assoc, ng_ad, zz_ad, ad_zz] at h'
  exact h'
theorem cuA_law {m : Int} {n : Nat} {t : List (List Int)} (hm : 0 < m) (L : Lw m n (atT t)) (ht : PlaT m n t) {a : List Int} (ha : at0 a 0 = 0) (hl : a.length = n) (hr : ∀ x ∈ a, 0 ≤ x ∧ x < m) (k : Nat) (hk : k + 1 ≤ n) :
    lo m (k + 1) (at0 (cuA m n t a k)) ∧ lo m 1 (at0 (crvL m n t (cuL m n t a k))) ∧ eqv m n (ev2 n (atT t) (at0 (crvL m n t (cuL m n t a k))) (at0 (cuA m n t a k))) (at0 a) ∧ ∀ i, i < k → at0 (cuL m n t a k) i = at0 (cuA m n t a i) (i + 1) := by
  have h2 := L.two
  induction k with
  | zero =>
    refine ⟨lo_at0 ha, ?_, ?_, fun i hi => by omega⟩
    · exact lo_at0 (at0_rep _ _)
    · have e : at0 (crvL m n t (cuL m n t a 0)) = (zz : Nat → Int) := funext fun i => at0_rep _ _
      rw [e]
      exact eqv_trans (ev2_comm L (lo_zz _ _) (lo_at0 ha)) (ev2_zz L _)
  | succ k ih =>
    obtain ⟨i1, i2, i3, i4⟩ := ih (by omega)
    have A1 : lo m 1 (at0 (cuA m n t a k)) := lo_le i1 (by omega)
    obtain ⟨c, hc⟩ : ∃ c, c = at0 (cuA m n t a k) (k + 1) := ⟨_, rfl⟩
    have cr : 0 ≤ c ∧ c < m := by rw [hc]; exact at0_range hm (cuA_range hm hr k) _
    -- the reference's number is the program's
    have ec : (at0 a (k + 1) - at0 (crvL m n t (cuL m n t a k)) (k + 1)) % m = c := by
      have e := eqv_trans (eqv_symm (eqv_le i3 (show k + 2 ≤ n by omega))) (ev2_low L i2 i1 (by omega) (by omega) (by omega))
      have := eqv1.1 e (k + 1) (by omega)
      rw [ser_ad] at this
      have e2 : (at0 a (k + 1) - at0 (crvL m n t (cuL m n t a k)) (k + 1)) % m = ((at0 (crvL m n t (cuL m n t a k)) (k + 1) + at0 (cuA m n t a k) (k + 1)) - at0 (crvL m n t (cuL m n t a k)) (k + 1)) % m :=
        emod_congr_sub this rfl
      rw [e2, show ∀ x y : Int, x + y - x = y from fun x y => by omega, ← hc, Int.emod_eq_of_lt cr.1 cr.2]
    have hM : at0 (monL n (k + 1) c) = mon (k + 1) c := monL_at c (by omega)
    have lM : lo m (k + 1) (mon (k + 1) c) := lo_mon _ _ _
    have lM1 : lo m 1 (mon (k + 1) c) := lo_le lM (by omega)
    have hI0 : lo m 1 (at0 (invL m n t)) := lo_at0 (invTo_0 _ _ _ _)
    -- the opposite
    have eO : eqv m n (at0 (horn m n (monL n (k + 1) c) (invL m n t))) (ev1 n (at0 (invL m n t)) (mon (k + 1) c)) := by
      rw [← hM]; exact L_horn _ _ (by rw [invL_len]; omega)
    have oL := opp_low L ht lM (by omega) (by omega)
    have oN : eqv m (k + 2) (at0 (horn m n (monL n (k + 1) c) (invL m n t))) (ng (mon (k + 1) c)) := eqv_trans (eqv_le eO (by omega)) oL
    have O1 : lo m (k + 1) (at0 (horn m n (monL n (k + 1) c) (invL m n t))) := lo_eqv oN (by omega) (lo_ng lM)
    have O11 : lo m 1 (at0 (horn m n (monL n (k + 1) c) (invL m n t))) := lo_le O1 (by omega)
    have eA : eqv m n (at0 (cuA m n t a (k + 1))) (ev2 n (atT t) (at0 (cuA m n t a k)) (at0 (horn m n (monL n (k + 1) c) (invL m n t)))) := by
      rw [hc]; exact L_put ht _ _
    have eC : crvL m n t (cuL m n t a (k + 1)) = putL m n t (crvL m n t (cuL m n t a k)) (monL n (k + 1) c) := by
      unfold crvL
      rw [cuL_len, cuL_len]
      show putL m n t (crvTo m n t (cuL m n t a (k + 1)) k) (monL n (k + 1) (at0 (cuL m n t a (k + 1)) k)) = _
      rw [show cuL m n t a (k + 1) = cuL m n t a k ++ [(at0 a (k + 1) - at0 (crvL m n t (cuL m n t a k)) (k + 1)) % m] from rfl, ec, at0_end (cuL_len _ _ _ _ _).symm, crvTo_cong k fun i hi => at0_apx (by rw [cuL_len]; exact hi)]
    have eC' : eqv m n (at0 (crvL m n t (cuL m n t a (k + 1)))) (ev2 n (atT t) (at0 (crvL m n t (cuL m n t a k))) (mon (k + 1) c)) := by
      rw [eC, ← hM]; exact L_put ht _ _
    have lC : lo m 1 (at0 (crvL m n t (cuL m n t a (k + 1)))) := lo_eqv eC' (by omega) (ev2_lo _ L.zer (Nat.le_refl _) i2 lM1)
    have lA : lo m 1 (at0 (cuA m n t a (k + 1))) := lo_eqv eA (by omega) (ev2_lo _ L.zer (Nat.le_refl _) A1 O11)
    refine ⟨?_, lC, ?_, ?_⟩
    · -- late
      have e := eqv_trans (eqv_le eA (show k + 2 ≤ n by omega)) (eqv_trans (ev2_low L A1 O1 (by omega) (by omega) (by omega)) (eqv_ad eqv_rfl oN))
      refine lo_eqv e (Nat.le_refl _) ?_
      intro i
      show lo m (k + 1 + 1 - i) (at0 (cuA m n t a k) i + (ng (mon (k + 1) c) : Nat → Int) i)
      rw [ser_ng]
      show lo m (k + 1 + 1 - i) (at0 (cuA m n t a k) i + -1 * (mon (k + 1) c i))
      unfold mon
      by_cases hi : i = k + 1
      · rw [hi, if_pos rfl, ← hc, show c + -1 * c = 0 by omega]; exact lo_zz _ _
      · rw [if_neg hi, show ∀ x : Int, x + -1 * 0 = x from fun x => by omega]
        by_cases hik : i < k + 1
        · rcases i1 i with e | e
          · omega
          · exact .inr e
        · exact .inl (by omega)
    · have cg : ∀ {x y x' y' : Nat → Int}, lo m 1 x → lo m 1 y → eqv m n x x' → eqv m n y y' → eqv m n (ev2 n (atT t) x y) (ev2 n (atT t) x' y') := fun hx hy ex ey => ev2_eqv hx hy (Nat.le_refl _) (fun _ _ _ => rfl) ex ey
      refine eqv_trans (cg lC lA eC' eA) ?_
      refine eqv_trans (ev2_four L i2 lM1 A1 O11) ?_
      refine eqv_trans (y := ev2 n (atT t) (at0 a) zz) (cg (ev2_lo _ L.zer (Nat.le_refl _) i2 A1) (ev2_lo _ L.zer (Nat.le_refl _) lM1 O11) i3 ?_) (ev2_zz L _)
      exact eqv_trans (cg lM1 O11 eqv_rfl eO) (ev2_opp L ht lM1)
    · intro i hi
      show at0 (cuL m n t a k ++ [(at0 a (k + 1) - at0 (crvL m n t (cuL m n t a k)) (k + 1)) % m]) i = _
      by_cases hik : i = k
      · rw [hik, at0_end (cuL_len _ _ _ _ _).symm, ec, hc]
      · rw [at0_apx (by rw [cuL_len]; omega)]; exact i4 i (by omega)
theorem coord_eq {m : Int} {n : Nat} {t : List (List Int)} (hm : 0 < m) (L : Lw m n (atT t)) (ht : PlaT m n t) {a : List Int} (ha : at0 a 0 = 0) (hl : a.length = n) (hr : ∀ x ∈ a, 0 ≤ x ∧ x < m) : cuL m n t a (n - 1) = mk (n - 1) (fun i => at0 (cuA m n t a i) (i + 1)) := by
  rw [eq_mk (cuL m n t a (n - 1)), cuL_len]
  exact mk_ext fun k hk => (cuA_law hm L ht ha hl hr (n - 1) (by have := L.two; omega)).2.2.2 k hk
end Go.Proofs.Ytdnkadlondediaa
