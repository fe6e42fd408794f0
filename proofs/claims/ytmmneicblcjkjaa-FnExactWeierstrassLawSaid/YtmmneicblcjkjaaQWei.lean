/- Lemmas of Wei. -/
import Derived.Test.YtmmneicblcjkjaaQRgS
set_option linter.unusedSimpArgs false
set_option linter.unusedVariables false
namespace Go.Proofs.Ytmmneicblcjkjaa
open Rg

theorem scaleL_at0 {m c : Int} {xs : List Int} {k : Nat} (h : k < xs.length) : at0 (scaleL m c xs) k = c * at0 xs k % m := by
  unfold scaleL at0 List.getD
  rw [List.getElem?_map, List.getElem?_eq_getElem h]; rfl
theorem L_scale {m c : Int} {n : Nat} {xs : List Int} (h : xs.length = n) : eqv m n (at0 (scaleL m c xs)) (ml (ic c) (at0 xs)) :=
  eqv1.2 fun k hk => by rw [scaleL_at0 (by omega), mod_self_mod, ser_icml]; rfl
def weiF {T : Type} [Rg T] (a : Nat → Int) (x w : T) : T :=
  ad (ad (ad (ad (ad (ml (ml x x) x) (ml (ic (a 0)) (ml x w))) (ml (ic (a 1)) (ml (ml x x) w))) (ml (ic (a 2)) (ml w w))) (ml (ic (a 3)) (ml x (ml w w)))) (ml (ic (a 4)) (ml (ml w w) w))
theorem weiF_up {T : Type} [Rg T] {m : Int} {k : Nat} (a : Nat → Int) {x u v : T} (hx : lo m 1 x) (hu : lo m 1 u) (hv : lo m 1 v) (h : eqv m k u v) : eqv m (k + 1) (weiF a x u) (weiF a x v) := by
  have sq : eqv m (k + 1) (ml u u) (ml v v) := by
    have a1 : eqv m (1 + k) (ml u u) (ml u v) := eqv_up hu h
    have a2 : eqv m (1 + k) (ml v u) (ml v v) := eqv_up hv h
    rw [show k + 1 = 1 + k by omega]
    refine eqv_trans a1 ?_
    rw [ml_comm u v]; exact a2
  have xu : eqv m (k + 1) (ml x u) (ml x v) := by
    rw [show k + 1 = 1 + k by omega]; exact eqv_up hx h
  have cu : eqv m (k + 1) (ml (ml u u) u) (ml (ml v v) v) := by
    refine eqv_trans (eqv_mlr u sq) ?_
    have h2 : lo m 1 (ml v v) := lo_mul v hv
    rw [show k + 1 = 1 + k by omega]
    exact eqv_up h2 h
  unfold weiF
  refine eqv_ad (eqv_ad (eqv_ad (eqv_ad (eqv_ad eqv_rfl (eqv_mll _ xu)) (eqv_mll _ ?_)) (eqv_mll _ sq)) (eqv_mll _ (eqv_mll _ sq))) (eqv_mll _ cu)
  rw [ml_assoc, ml_assoc]
  exact eqv_mll _ xu
theorem weiF_lo {T : Type} [Rg T] {m : Int} (a : Nat → Int) {x w : T} (hx : lo m 1 x) (hw : lo m 1 w) : lo m 1 (weiF a x w) := by
  have h0 : eqv m 1 (weiF a x w) zz := by
    have e : ∀ {y z : T}, lo m 1 z → eqv m 1 (ml (ic 0) y) zz → eqv m 1 z zz := fun hz _ => eqv_lo hz
    have l1 : ∀ {y : T} (z : T), lo m 1 y → lo m 1 (ml z y) := fun z hy => lo_mul z hy
    exact eqv_lo (lo_ad (lo_ad (lo_ad (lo_ad (lo_ad (l1 _ hx) (l1 _ (l1 _ hw))) (l1 _ (l1 _ hw))) (l1 _ (l1 _ hw))) (l1 _ (l1 _ (l1 _ hw)))) (l1 _ (l1 _ hw)))
  exact lo_eqv h0 (Nat.le_refl _) (lo_zz _ _)
theorem wei_iter {m : Int} {n : Nat} (a : Nat → Int) {x S : Nat → Int} {w : Nat → Nat → Int} (hx : lo m 1 x) (hS : lo m 1 S) (fix : eqv m n S (weiF a x S)) (h0 : lo m 1 (w 0)) (step : ∀ j, eqv m n (w (j + 1)) (weiF a x (w j))) : ∀ j, j + 1 ≤ n → lo m 1 (w j) ∧ eqv m (j + 1) (w j) S
  | 0, h => ⟨h0, eqv_trans (eqv_lo h0) (eqv_symm (eqv_lo hS))⟩
  | j + 1, h => by
    obtain ⟨h1, h2⟩ := wei_iter a hx hS fix h0 step j (by omega)
    refine ⟨lo_eqv (step j) (by omega) (weiF_lo a hx h1), ?_⟩
    exact eqv_trans (eqv_le (step j) (by omega)) (eqv_trans (weiF_up a hx h1 hS h2) (eqv_symm (eqv_le fix (by omega))))

def weiStep (m : Int) (n : Nat) (a : Nat → Int) (w : List Int) : List Int :=
  addL m n (addL m n (addL m n (addL m n (addL m n (timesL m n (timesL m n (varL n) (varL n)) (varL n)) (scaleL m (a 0) (timesL m n (varL n) w))) (scaleL m (a 1) (timesL m n (timesL m n (varL n) (varL n)) w))) (scaleL m (a 2) (timesL m n w w))) (scaleL m (a 3) (timesL m n (varL n) (timesL m n w w)))) (scaleL m (a 4) (timesL m n (timesL m n w w) w))
def weiI (m : Int) (n : Nat) (a : Nat → Int) : Nat → List Int
  | 0 => List.replicate n 0
  | k + 1 => weiStep m n a (weiI m n a k)
theorem weiI_len (m : Int) (n : Nat) (a : Nat → Int) (k : Nat) : (weiI m n a k).length = n := by
  cases k with
  | zero => simp [weiI]
  | succ k => exact addL_len _ _ _ _
theorem weiI_range {m : Int} (hm : 0 < m) (n : Nat) (a : Nat → Int) (k : Nat) : ∀ y ∈ weiI m n a k, 0 ≤ y ∧ y < m := by
  cases k with
  | zero => intro y hy; simp [weiI] at hy; omega
  | succ k => exact addL_range hm
theorem weiStep_eqv {m : Int} {n : Nat} (h2 : 2 ≤ n) (a : Nat → Int) {w : List Int} (hw : w.length = n) : eqv m n (at0 (weiStep m n a w)) (weiF a xS (at0 w)) := by
  have z : at0 (varL n) = xS := at0_var h2
  have e2 : eqv m n (at0 (timesL m n (varL n) (varL n))) (ml xS xS) := by rw [← z]; exact L_times _ _ _ _
  have ww : eqv m n (at0 (timesL m n w w)) (ml (at0 w) (at0 w)) := L_times _ _ _ _
  have sc : ∀ {c : Int} {xs : List Int} {f : Nat → Int}, xs.length = n → eqv m n (at0 xs) f → eqv m n (at0 (scaleL m c xs)) (ml (ic c) f) := fun hl h => eqv_trans (L_scale hl) (eqv_mll _ h)
  have ti : ∀ {xs ys : List Int} {f g : Nat → Int}, eqv m n (at0 xs) f → eqv m n (at0 ys) g → eqv m n (at0 (timesL m n xs ys)) (ml f g) := fun h k => eqv_trans (L_times _ _ _ _) (eqv_ml h k)
  have adl : ∀ {xs ys : List Int} {f g : Nat → Int}, eqv m n (at0 xs) f → eqv m n (at0 ys) g → eqv m n (at0 (addL m n xs ys)) (ad f g) := fun h k => eqv_trans (L_add _ _ _ _) (eqv_ad h k)
  have x1 : eqv m n (at0 (varL n)) xS := eqv_of z
  exact adl (adl (adl (adl (adl (ti e2 x1) (sc (timesL_len _ _ _ _) (ti x1 eqv_rfl))) (sc (timesL_len _ _ _ _) (ti e2 eqv_rfl))) (sc (timesL_len _ _ _ _) ww)) (sc (timesL_len _ _ _ _) (ti x1 ww))) (sc (timesL_len _ _ _ _) (ti ww eqv_rfl))

def weiV (m : Int) (a : Nat → Int) (w : List Int) (k : Nat) : Int :=
  (a 0 * at0 w (k + 2) + a 1 * at0 w (k + 1) + a 2 * at0 (timesL m (k + 4) w w) (k + 3) + a 3 * at0 (timesL m (k + 4) w w) (k + 2) + a 4 * at0 (timesL m (k + 4) (timesL m (k + 4) w w) w) (k + 3) + (if k = 0 then 1 else 0)) % m
def weiR (m : Int) (N : Nat) (a : Nat → Int) : Nat → List Int
  | 0 => List.replicate N 0
  | k + 1 => (weiR m N a k).set (k + 3) (weiV m a (weiR m N a k) k)
theorem weiR_len (m : Int) (N : Nat) (a : Nat → Int) : ∀ k, (weiR m N a k).length = N
  | 0 => by simp [weiR]
  | k + 1 => by simp [weiR, weiR_len m N a k]
theorem weiR_range {m : Int} (hm : 0 < m) (N : Nat) (a : Nat → Int) : ∀ k, ∀ y ∈ weiR m N a k, 0 ≤ y ∧ y < m
  | 0 => by intro y hy; simp [weiR] at hy; omega
  | k + 1 => by
    intro y hy
    rcases List.mem_or_eq_of_mem_set hy with h | rfl
    · exact weiR_range hm N a k y h
    · exact mod_lt' hm
theorem weiR_out (m : Int) (N : Nat) (a : Nat → Int) : ∀ k i, (i < 3 ∨ k + 2 < i) → at0 (weiR m N a k) i = 0
  | 0, i, _ => by unfold weiR; exact at0_rep _ _
  | k + 1, i, h => by
    unfold weiR
    rw [at0_set, if_neg (by omega)]
    exact weiR_out m N a k i (by omega)
theorem weiR_keep (m : Int) (N : Nat) (a : Nat → Int) {k i : Nat} (h : i ≤ k + 2) : ∀ d, at0 (weiR m N a (k + d)) i = at0 (weiR m N a k) i
  | 0 => rfl
  | d + 1 => by
    show at0 ((weiR m N a (k + d)).set (k + d + 3) _) i = _
    rw [at0_set, if_neg (by omega)]
    exact weiR_keep m N a h d
theorem x_ml (f : Nat → Int) (k : Nat) : (ml xS f : Nat → Int) (k + 1) = f k := by
  rw [cv_conv]
  unfold conv
  rw [sumN_only (i := 1) (by omega) fun j hj hne => by unfold xS mon; rw [if_neg hne, Int.zero_mul]]
  unfold xS mon
  rw [if_pos rfl, Int.one_mul, Nat.add_sub_cancel]
theorem x_ml0 (f : Nat → Int) : (ml xS f : Nat → Int) 0 = 0 := by
  rw [cv_conv]
  unfold conv
  rw [sumN_one]
  unfold xS mon
  rw [if_neg (by omega), Int.zero_mul]
theorem x3 (k : Nat) : (ml (ml xS xS) xS : Nat → Int) k = if k = 3 then 1 else 0 := by
  rw [ml_assoc]
  cases k with
  | zero => rw [x_ml0]; rfl
  | succ k =>
    rw [x_ml]
    cases k with
    | zero => rw [x_ml0]; rfl
    | succ k =>
      rw [x_ml]
      unfold xS mon
      by_cases h : k = 1
      · subst h; rfl
      · rw [if_neg h, if_neg (by omega)]
theorem emod_congr_addW {a a' b b' m : Int} (h : a % m = a' % m) (k : b % m = b' % m) : (a + b) % m = (a' + b') % m := by rw [Int.add_emod, h, k, ← Int.add_emod]
theorem weiR_fix {m : Int} (N : Nat) (a : Nat → Int) : eqv m N (at0 (weiR m N a (N - 3))) (weiF a xS (at0 (weiR m N a (N - 3)))) := by
  refine eqv1.2 fun k hk => ?_
  generalize hf : at0 (weiR m N a (N - 3)) = f
  have f0 : ∀ i, i < 3 → f i = 0 := fun i hi => by rw [← hf]; exact weiR_out m N a _ i (.inl hi)
  have cf : ∀ i, i < 6 → conv f f i = 0 := fun i hi => by
    unfold conv
    exact sumN_zero fun j hj => by
      by_cases h : j < 3
      · rw [f0 j h, Int.zero_mul]
      · rw [f0 (i - j) (by omega), Int.mul_zero]
  have e5 : ∀ i, (weiF a xS f : Nat → Int) i = (ml (ml xS xS) xS : Nat → Int) i + a 0 * (ml xS f : Nat → Int) i + a 1 * (ml (ml xS xS) f : Nat → Int) i + a 2 * (ml f f : Nat → Int) i + a 3 * (ml xS (ml f f) : Nat → Int) i + a 4 * (ml (ml f f) f : Nat → Int) i := fun i => by
    unfold weiF
    rw [ser_ad, ser_ad, ser_ad, ser_ad, ser_ad, ser_icml, ser_icml, ser_icml, ser_icml, ser_icml]
    rfl
  rw [e5, x3]
  by_cases hk3 : k < 3
  · rw [f0 k hk3, if_neg (by omega)]
    have g1 : (ml xS f : Nat → Int) k = 0 := by
      cases k with
      | zero => exact x_ml0 f
      | succ k => rw [x_ml]; exact f0 k (by omega)
    have g2 : (ml (ml xS xS) f : Nat → Int) k = 0 := by
      rw [ml_assoc]
      cases k with
      | zero => exact x_ml0 _
      | succ k =>
        rw [x_ml]
        cases k with
        | zero => exact x_ml0 _
        | succ k => rw [x_ml]; exact f0 k (by omega)
    have g3 : (ml f f : Nat → Int) k = 0 := by rw [cv_conv]; exact cf k (by omega)
    have g4 : (ml xS (ml f f) : Nat → Int) k = 0 := by
      cases k with
      | zero => exact x_ml0 _
      | succ k => rw [x_ml, cv_conv]; exact cf k (by omega)
    have g5 : (ml (ml f f) f : Nat → Int) k = 0 := by
      rw [cv_conv]
      unfold conv
      exact sumN_zero fun j hj => by rw [cv_conv, cf j (by omega), Int.zero_mul]
    rw [g1, g2, g3, g4, g5]
    simp
  · obtain ⟨j, rfl⟩ : ∃ j, k = j + 3 := ⟨k - 3, by omega⟩
    generalize hw : weiR m N a j = w
    have hwf : ∀ i, i ≤ j + 2 → at0 w i = f i := fun i hi => by
      rw [← hf, ← hw, show N - 3 = j + (N - 3 - j) by omega, weiR_keep m N a hi]
    have w3 : at0 w (j + 3) = 0 := by rw [← hw]; exact weiR_out m N a j _ (.inr (by omega))
    have w0 : at0 w 0 = 0 := by rw [hwf 0 (by omega)]; exact f0 0 (by omega)
    have hfk : f (j + 3) = weiV m a w j := by
      rw [← hf, show N - 3 = (j + 1) + (N - 3 - (j + 1)) by omega, weiR_keep m N a (by omega)]
      show at0 ((weiR m N a j).set (j + 3) _) (j + 3) = _
      rw [at0_set, if_pos ⟨rfl, by rw [weiR_len]; omega⟩, hw]
    have cw : ∀ i, i ≤ j + 3 → conv (at0 w) (at0 w) i = conv f f i := fun i hi => conv_congr fun q hq => by
      by_cases h1 : q = j + 3
      · have : i - q = 0 := by omega
        rw [this, w0, f0 0 (by omega), Int.mul_zero, Int.mul_zero]
      · by_cases h2 : i - q = j + 3
        · have : q = 0 := by omega
          rw [this, w0, f0 0 (by omega), Int.zero_mul, Int.zero_mul]
        · rw [hwf q (by omega), hwf (i - q) (by omega)]
    have sq : ∀ i, i < j + 4 → at0 (timesL m (j + 4) w w) i = conv f f i % m := fun i hi => by
      show at0 (mk _ _) i = _
      rw [mk_at hi, cw i (by omega)]
    have cu : at0 (timesL m (j + 4) (timesL m (j + 4) w w) w) (j + 3) % m = (ml (ml f f) f : Nat → Int) (j + 3) % m := by
      rw [show at0 (timesL m (j + 4) (timesL m (j + 4) w w) w) (j + 3) = conv (at0 (timesL m (j + 4) w w)) (at0 w) (j + 3) % m from mk_at (by omega), mod_self_mod, cv_conv]
      unfold conv
      refine sumN_mod fun i hi => ?_
      rw [sq i (by omega), cv_conv]
      by_cases h : j + 3 - i = j + 3
      · have : i = 0 := by omega
        rw [this, cf 0 (by omega)]; simp
      · rw [hwf _ (by omega)]
        exact emod_congr_mul (mod_self_mod _ _) rfl
    rw [hfk]
    unfold weiV
    rw [mod_self_mod, hwf (j + 2) (by omega), hwf (j + 1) (by omega), sq (j + 3) (by omega), sq (j + 2) (by omega), x_ml, ml_assoc, x_ml, x_ml, cv_conv, x_ml, cv_conv]
    have t1 : ((if j = 0 then (1 : Int) else 0)) = (if j + 3 = 3 then 1 else 0) := by
      by_cases h : j = 0
      · rw [if_pos h, if_pos (by omega)]
      · rw [if_neg h, if_neg (by omega)]
    rw [t1]
    have r2 : (a 2 * (conv f f (j + 3) % m)) % m = (a 2 * conv f f (j + 3)) % m := emod_congr_mul rfl (mod_self_mod _ _)
    have r3 : (a 3 * (conv f f (j + 2) % m)) % m = (a 3 * conv f f (j + 2)) % m := emod_congr_mul rfl (mod_self_mod _ _)
    have r4 := emod_congr_mul (a := a 4) (a' := a 4) rfl cu
    have key := emod_congr_addW (emod_congr_addW (emod_congr_addW (emod_congr_addW (a := a 0 * f (j + 2) + a 1 * f (j + 1)) rfl r2) r3) r4) (b := if j + 3 = 3 then (1 : Int) else 0) rfl
    rw [key]
    congr 1
    generalize (if j + 3 = 3 then (1 : Int) else 0) = u
    generalize (ml (ml f f) f : Nat → Int) (j + 3) = q
    omega
theorem wei_eq {m : Int} (hm : 0 < m) {N : Nat} (h3 : 3 ≤ N) (a : Nat → Int) : weiI m N a (N - 1) = weiR m N a (N - 3) := by
  have hS0 : at0 (weiR m N a (N - 3)) 0 = 0 := weiR_out m N a _ 0 (.inl (by omega))
  have hw0 : lo m 1 (at0 (weiI m N a 0)) := lo_at0 (at0_rep _ _)
  have h := (wei_iter (n := N) a (lo_x m) (lo_at0 hS0) (weiR_fix N a) (w := fun j => at0 (weiI m N a j)) hw0 (fun j => weiStep_eqv (by omega) a (weiI_len m N a j)) (N - 1) (by omega)).2
  rw [show N - 1 + 1 = N by omega] at h
  exact list_eq (weiI_len _ _ _ _) (weiR_len _ _ _ _) (weiI_range hm _ _ _) (weiR_range hm _ _ _) h
end Go.Proofs.Ytmmneicblcjkjaa
