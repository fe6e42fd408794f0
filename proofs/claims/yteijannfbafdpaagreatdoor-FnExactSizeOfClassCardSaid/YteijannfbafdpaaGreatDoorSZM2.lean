/- Lemmas. -/
import Derived.Test.YteijannfbafdpaaGreatDoorSZG1
import Derived.Test.YteijannfbafdpaaGreatDoorSZG11
/- Inverses modulo a number, by Euclid's algorithm, and common divisors, in plain arithmetic. No program stands here. -/
set_option linter.unusedSimpArgs false
set_option linter.unusedVariables false
namespace Go.Proofs.YteijannfbafdpaaGreatDoor

def eu (r s : Nat) (x y : Int) : Int := if h : s = 0 then x else eu s (r % s) y (x - ((r / s : Nat) : Int) * y)
termination_by s
decreasing_by exact Nat.mod_lt _ (by omega)
theorem eu_0 (r : Nat) (x y : Int) : eu r 0 x y = x := by rw [eu]; simp
theorem eu_s {r s : Nat} (h : s ≠ 0) (x y : Int) : eu r s x y = eu s (r % s) y (x - ((r / s : Nat) : Int) * y) := by conv => lhs; rw [eu, dif_neg h]
def invM (m a : Int) : Int := eu m.toNat (a % m).toNat 0 1 % m
theorem invM_range {m : Int} (hm : 0 < m) (a : Int) : 0 ≤ invM m a ∧ invM m a < m := mod_lt' hm
structure EuI (m r s : Nat) (x y : Int) : Prop where
  ex : ∃ X Y : Nat, Y * r + X * s = m ∧ ((x = X ∧ y = -(Y : Int)) ∨ (x = -(X : Int) ∧ y = Y))
  lt : s < r
  le : r ≤ m
  bx : -(m : Int) ≤ x ∧ x ≤ m
theorem EuI.start {m a : Nat} (h : a < m) : EuI m m a 0 1 := ⟨⟨0, 1, by simp, .inr ⟨by simp, by simp⟩⟩, h, Nat.le_refl _, by omega⟩
theorem EuI.bounds {m r s : Nat} {x y : Int} (h : EuI m r s x y) : -(m : Int) ≤ y ∧ y ≤ m := by
  obtain ⟨⟨X, Y, hm, hx⟩, hl, hle, -⟩ := h
  have h2 : Y ≤ Y * r := Nat.le_mul_of_pos_right _ (by omega)
  rcases hx with ⟨rfl, rfl⟩ | ⟨rfl, rfl⟩ <;> omega
theorem EuI.step {m r s : Nat} {x y : Int} (h : EuI m r s x y) (hs : s ≠ 0) : EuI m s (r % s) y (x - ((r / s : Nat) : Int) * y) := by
  have hby := h.bounds
  obtain ⟨⟨X, Y, hm, hx⟩, hl, hle, -⟩ := h
  refine ⟨⟨Y, X + r / s * Y, ?_, ?_⟩, Nat.mod_lt _ (by omega), by omega, hby⟩
  · have e := Nat.div_add_mod r s
    have e2 : (X + r / s * Y) * s + Y * (r % s) = X * s + Y * (s * (r / s) + r % s) := by grind
    rw [e2, e, ← hm]; omega
  · rcases hx with ⟨rfl, rfl⟩ | ⟨rfl, rfl⟩
    · exact .inr ⟨rfl, by push_cast; grind⟩
    · exact .inl ⟨rfl, by push_cast; grind⟩
theorem EuI.prod {m r s : Nat} {x y : Int} (h : EuI m r s x y) (hs : s ≠ 0) : -(m : Int) ≤ ((r / s : Nat) : Int) * y ∧ ((r / s : Nat) : Int) * y ≤ m := by
  have h1 := (h.step hs).bounds
  obtain ⟨⟨X, Y, hm, hx⟩, hl, hle, -⟩ := h
  have hn : 0 ≤ ((r / s : Nat) : Int) * (Y : Int) := Int.mul_nonneg (Int.natCast_nonneg _) (Int.natCast_nonneg _)
  generalize ((r / s : Nat) : Int) = q at *
  rcases hx with ⟨rfl, rfl⟩ | ⟨rfl, rfl⟩
  · rw [Int.mul_neg] at h1 ⊢; omega
  · omega
theorem eu_spec {m a : Int} : ∀ (s r : Nat) (x y : Int), x * a % m = (r : Int) % m → y * a % m = (s : Int) % m → eu r s x y * a % m = ((Nat.gcd r s : Nat) : Int) % m := by
  intro s
  induction s using Nat.strongRecOn with
  | _ s ih =>
    intro r x y hx hy
    by_cases hs : s = 0
    · subst hs; rw [eu_0, Nat.gcd_zero_right]; exact hx
    · rw [eu_s hs, Nat.gcd_comm, Nat.gcd_rec, Nat.gcd_comm]
      refine ih (r % s) (Nat.mod_lt _ (by omega)) s y _ hy ?_
      have e := Nat.div_add_mod r s
      have e1 : ((r % s : Nat) : Int) = (r : Int) - ((r / s : Nat) : Int) * (s : Int) := by
        have : ((s * (r / s) + r % s : Nat) : Int) = (r : Int) := by rw [e]
        push_cast at this ⊢; grind
      have e2 : (x - ((r / s : Nat) : Int) * y) * a = x * a - ((r / s : Nat) : Int) * (y * a) := by grind
      rw [e1, e2, Int.sub_emod, hx, Int.mul_emod, hy, ← Int.mul_emod, ← Int.sub_emod]
theorem invM_spec {m a : Int} (hm : 0 < m) (hg : Nat.gcd (a % m).toNat m.toNat = 1) : a * invM m a % m = 1 % m := by
  have h := eu_spec (m := m) (a := a) (a % m).toNat m.toNat 0 1 (by rw [Int.zero_mul, Int.toNat_of_nonneg (by omega)]; simp) (by rw [Int.one_mul, Int.toNat_of_nonneg (Int.emod_nonneg _ (by omega)), Int.emod_emod_of_dvd _ (Int.dvd_refl m)])
  rw [Nat.gcd_comm, hg] at h
  unfold invM
  rw [Int.mul_emod, Int.emod_emod_of_dvd _ (Int.dvd_refl m), ← Int.mul_emod, Int.mul_comm, h]
  rfl
def unitB (m a : Int) : Bool := Nat.gcd a.toNat m.toNat == 1
theorem unitB_inv {m a : Int} (hm : 0 < m) (ha : 0 ≤ a) (h : unitB m a = true) : a * invM m a % m = 1 % m := by
  refine invM_spec hm ?_
  simp only [unitB, beq_iff_eq] at h
  have : (a % m).toNat = a.toNat % m.toNat := by
    rw [Int.toNat_emod ha (by omega)]
  rw [this, ← Nat.gcd_rec, Nat.gcd_comm]; exact h
end Go.Proofs.YteijannfbafdpaaGreatDoor

/- Inverses and reversions of power series, integrals; units. No program stands here. -/
set_option linter.unusedSimpArgs false
set_option linter.unusedVariables false
namespace Go.Proofs.YteijannfbafdpaaGreatDoor

theorem conv_congr {a a' b b' : Nat → Int} {k : Nat} (h : ∀ i, i ≤ k → a i * b (k - i) = a' i * b' (k - i)) : conv a b k = conv a' b' k := sumN_congr fun i hi => h i (by omega)
theorem horn_at {m : Int} {N : Nat} {f : List Int} (h0 : at0 f 0 = 0) (cs : List Int) {j : Nat} (hj : j < N) :
    at0 (horn m N f cs) j = (if j = 0 then at0 cs 0 else conv (at0 (horn m N f cs.tail)) (at0 f) j) % m := by
  have hz : ∀ i, at0 (List.replicate N (0 : Int)) i = 0 := fun i => by
    rw [mk_zero]
    by_cases h : i < N
    · rw [mk_at h]
    · rw [mk_out (by omega)]
  cases cs with
  | nil =>
    simp only [horn, List.tail_nil]
    rw [hz]
    by_cases h : j = 0
    · simp [h, at0]
    · rw [if_neg h]
      unfold conv
      rw [sumN_zero (fun i _ => by rw [hz, Int.zero_mul])]; simp
  | cons c cs =>
    simp only [horn, List.tail_cons]
    unfold addc timesL
    rw [mk_set]
    rw [mk_at hj]
    by_cases h : j = 0
    · subst h
      rw [if_pos rfl, if_pos rfl, mk_at hj]
      unfold conv
      simp only [sumN, Nat.sub_self, h0, Int.mul_zero]
      simp [at0]
    · rw [if_neg h, if_neg h]
theorem horn_cong {m : Int} {N N' : Nat} {f f' : List Int} (h0 : at0 f 0 = 0) (h0' : at0 f' 0 = 0) : ∀ (j : Nat), j < N → j < N' → (∀ i, i ≤ j → at0 f i = at0 f' i) →
    ∀ cs cs' : List Int, (∀ i, i ≤ j → at0 cs i = at0 cs' i) → at0 (horn m N f cs) j = at0 (horn m N' f' cs') j := by
  intro j
  induction j using Nat.strongRecOn with
  | _ j ih =>
    intro hN hN' hf cs cs' hc
    rw [horn_at h0 cs hN, horn_at h0' cs' hN']
    by_cases h : j = 0
    · rw [if_pos h, if_pos h, hc 0 (by omega)]
    · rw [if_neg h, if_neg h]
      rw [conv_congr (fun i hi => ?_)]
      by_cases hij : i = j
      · subst hij; rw [Nat.sub_self, h0, h0', Int.mul_zero, Int.mul_zero]
      · rw [ih i (by omega) (by omega) (by omega) (fun k hk => hf k (by omega)) cs.tail cs'.tail (fun k hk => ?_), hf (j - i) (by omega)]
        have e : ∀ l : List Int, at0 l.tail k = at0 l (k + 1) := fun l => by cases l <;> simp [at0, List.getD]
        rw [e, e]; exact hc (k + 1) (by omega)
theorem at0_take {a : List Int} {n i : Nat} (h : i < n) : at0 (a.take n) i = at0 a i := by
  unfold at0 List.getD; rw [List.getElem?_take, if_pos h]
theorem at0_set {l : List Int} {k i : Nat} {x : Int} : at0 (l.set k x) i = if i = k ∧ k < l.length then x else at0 l i := by
  unfold at0 List.getD
  rw [List.getElem?_set]
  by_cases h : k = i
  · subst h
    by_cases h2 : k < l.length
    · simp [h2]
    · rw [if_pos rfl, if_neg h2, if_neg (by omega)]
      rw [List.getElem?_eq_none (by omega)]
  · rw [if_neg h, if_neg (by omega)]

def revTo (m : Int) (n : Nat) (a : List Int) : Nat → List Int
  | 0 => List.replicate n 0
  | 1 => (List.replicate n 0).set 1 (invM m (at0 a 1))
  | k + 2 => (revTo m n a (k + 1)).set (k + 2) ((-(at0 (horn m n (revTo m n a (k + 1)) a) (k + 2)) * invM m (at0 a 1)) % m)
def revL (m : Int) (n : Nat) (a : List Int) : List Int := revTo m n a (n - 1)
theorem revTo_len (m : Int) (n : Nat) (a : List Int) : ∀ k, (revTo m n a k).length = n
  | 0 => by simp [revTo]
  | 1 => by simp [revTo]
  | k + 2 => by simp [revTo, revTo_len m n a (k + 1)]
theorem revL_len (m : Int) (n : Nat) (a : List Int) : (revL m n a).length = n := revTo_len _ _ _ _
theorem revTo_range {m : Int} (hm : 0 < m) (n : Nat) (a : List Int) : ∀ k, ∀ x ∈ revTo m n a k, 0 ≤ x ∧ x < m
  | 0 => by intro x hx; simp [revTo] at hx; omega
  | 1 => by
    intro x hx
    rcases List.mem_or_eq_of_mem_set hx with h | rfl
    · simp at h; omega
    · exact invM_range hm _
  | k + 2 => by
    intro x hx
    rcases List.mem_or_eq_of_mem_set hx with h | rfl
    · exact revTo_range hm n a (k + 1) x h
    · exact mod_lt' hm
theorem revTo_0 (m : Int) (n : Nat) (a : List Int) : ∀ k, at0 (revTo m n a k) 0 = 0
  | 0 => by unfold revTo; rw [mk_zero]; cases n <;> simp [mk, at0]
  | 1 => by
    unfold revTo; rw [at0_set, if_neg (by omega), mk_zero]; cases n <;> simp [mk, at0]
  | k + 2 => by
    unfold revTo; rw [at0_set, if_neg (by omega)]; exact revTo_0 m n a (k + 1)
theorem rev_step {m : Int} (hm : 0 < m) {n k : Nat} {a : List Int} (hk : k + 2 < n) :
    (m - at0 (horn m (k + 3) (revTo m n a (k + 1)) (a.take (k + 3))) (k + 2)) * invM m (at0 a 1) % m = (-(at0 (horn m n (revTo m n a (k + 1)) a) (k + 2)) * invM m (at0 a 1)) % m := by
  rw [horn_cong (N' := n) (f' := revTo m n a (k + 1)) (revTo_0 _ _ _ _) (revTo_0 _ _ _ _) (k + 2) (by omega) hk (fun _ _ => rfl) _ a (fun i hi => at0_take (by omega))]
  have e : ∀ x y : Int, (m - x) * y = -x * y + m * y := fun x y => by grind
  rw [e, Int.add_mul_emod_self_left]
theorem neg_mul_mod {m x u : Int} : (-(x * u % m)) % m = (-x * u) % m := by
  have : (-(x * u % m)) % m = (-(x * u)) % m := by
    rw [Int.neg_emod_eq_sub_emod, Int.neg_emod_eq_sub_emod, Int.sub_emod, Int.emod_emod_of_dvd _ (Int.dvd_refl m), ← Int.sub_emod]
  rw [this, Int.neg_mul]

theorem sumN_first (n : Nat) (f : Nat → Int) : sumN (n + 1) f = f 0 + sumN n (fun i => f (i + 1)) := by
  induction n with
  | zero => simp [sumN]
  | succ n ih => rw [show sumN (n + 1 + 1) f = sumN (n + 1) f + f (n + 1) from rfl, ih]; simp only [sumN]; omega
end Go.Proofs.YteijannfbafdpaaGreatDoor
/- Lists and tables of numbers as power series: what the lists' operations are in the ring. No program stands here. -/
set_option linter.unusedSimpArgs false
set_option linter.unusedVariables false
namespace Go.Proofs.YteijannfbafdpaaGreatDoor
open Rg

theorem sumN_sm (n : Nat) (f : Nat → Int) : sumN n f = sm n f := by
  induction n with
  | zero => rfl
  | succ n ih => simp only [sumN]; rw [ih]; rfl
theorem cv_conv (f g : Nat → Int) (k : Nat) : (ml f g : Nat → Int) k = conv f g k := (sumN_sm _ _).symm
theorem cv_conv2 (F G : Nat → Nat → Int) (p q : Nat) : (ml F G : Nat → Nat → Int) p q = conv2 F G p q := by
  show (sm (p + 1) (fun i => ml (F i) (G (p - i))) : Nat → Int) q = _
  rw [ser_sm]
  unfold conv2
  rw [sumN_sm]
  exact sm_congr fun i _ => cv_conv _ _ _
theorem mod_self_mod (a m : Int) : a % m % m = a % m := Int.emod_emod_of_dvd _ (Int.dvd_refl m)
theorem L_mk (m : Int) (n : Nat) (f : Nat → Int) : eqv m n (at0 (mk n (fun k => f k % m))) f := eqv1.2 fun k hk => by rw [mk_at hk, mod_self_mod]
theorem T_tri (m : Int) (n : Nat) (F : Nat → Nat → Int) : eqv m n (atT (tri n (fun i j => F i j % m))) F := eqv2.2 fun i j h => by rw [atT_tri h, mod_self_mod]
theorem L_times (m : Int) (n : Nat) (a b : List Int) : eqv m n (at0 (timesL m n a b)) (ml (at0 a) (at0 b)) :=
  eqv_trans (L_mk m n _) (eqv_of (funext fun k => (cv_conv _ _ k).symm))
theorem T_times (m : Int) (n : Nat) (a b : List (List Int)) : eqv m n (atT (timesT m n a b)) (ml (atT a) (atT b)) :=
  eqv_trans (T_tri m n _) (eqv_of (funext fun p => funext fun q => (cv_conv2 _ _ p q).symm))
theorem at0_rep (n k : Nat) : at0 (List.replicate n (0 : Int)) k = 0 := by
  rw [mk_zero]
  by_cases h : k < n
  · exact mk_at h
  · exact mk_out (by omega)
theorem L_pow (m : Int) (n : Nat) (a : List Int) (k : Nat) : eqv m n (at0 (powL m n a k)) (pw (at0 a) k) := by
  induction k with
  | zero =>
    refine eqv1.2 fun k hk => ?_
    unfold powL
    rw [at0_set, at0_rep, List.length_replicate]
    show _ = (if k = 0 then (1 : Int) else 0) % m
    by_cases h : k = 0
    · rw [if_pos ⟨h, by omega⟩, if_pos h, mod_self_mod]
    · rw [if_neg (fun e => h e.1), if_neg h]
  | succ k ih => exact eqv_trans (L_times m n _ _) (eqv_mlr _ ih)
theorem T_pow (m : Int) (n : Nat) (t : List (List Int)) (k : Nat) : eqv m n (atT (powT m n t k)) (pw (atT t) k) := by
  induction k with
  | zero =>
    refine eqv2.2 fun i j h => ?_
    unfold powT
    rw [atT_tri h]
    show _ = (if i = 0 then (fun j : Nat => if j = 0 then (1 : Int) else 0) else (fun _ => 0)) j % m
    by_cases hi : i = 0
    · by_cases hj : j = 0
      · rw [if_pos ⟨hi, hj⟩, if_pos hi, if_pos hj, mod_self_mod]
      · rw [if_neg (fun e => hj e.2), if_pos hi, if_neg hj]
    · rw [if_neg (fun e => hi e.1), if_neg hi]
  | succ k ih => exact eqv_trans (T_times m n _ _) (eqv_mlr _ ih)
theorem atT_out {m : Int} {n : Nat} {t : List (List Int)} (ht : PlaT m n t) {i j : Nat} (h : n ≤ i + j) : atT t i j = 0 := by
  obtain ⟨hl, hr⟩ := ht
  by_cases hi : i < t.length
  · rw [atT_row hi]
    exact at0_out (by rw [(hr i hi).1]; omega)
  · unfold atT List.getD
    rw [List.getElem?_eq_none (by omega)]; rfl
theorem sm_short {T : Type} [Rg T] {n k : Nat} {f : Nat → T} (hk : k ≤ n) (h : ∀ i, k ≤ i → i < n → f i = zz) : sm n f = sm k f := by
  obtain ⟨d, rfl⟩ : ∃ d, n = k + d := ⟨n - k, by omega⟩
  rw [sm_split, sm_none (n := d) fun i hi => h (k + i) (by omega) (by omega), ad_zz]
theorem ic_ser1 (c : Int) (k : Nat) : (ic c : Nat → Int) k = if k = 0 then c else 0 := rfl
def hs {T : Type} [Rg T] (cs : List Int) (a : T) : T := sm cs.length (fun k => ml (ic (at0 cs k)) (pw a k))
theorem hs_cons {T : Type} [Rg T] (c : Int) (cs : List Int) (a : T) : hs (c :: cs) a = ad (ic c) (ml (hs cs a) a) := by
  unfold hs
  rw [List.length_cons, sm_first, sm_mr]
  congr 1
  · show ml (ic c) oo = _
    rw [ml_oo]
  · exact sm_congr fun k _ => by rw [show at0 (c :: cs) (k + 1) = at0 cs k from rfl, ml_assoc]; rfl
theorem hs_ev1 {T : Type} [Rg T] {n : Nat} {cs : List Int} (h : cs.length ≤ n) (a : T) : ev1 n (at0 cs) a = hs cs a :=
  sm_short h fun i hi _ => by rw [at0_out hi, ic_0, zz_ml]
theorem L_addc {m : Int} {n : Nat} {c : Int} {l : List Int} (hl : l.length = n) : eqv m n (at0 (addc m c l)) (ad (ic c) (at0 l)) := by
  refine eqv1.2 fun k hk => ?_
  unfold addc
  rw [at0_set, ser_ad, ic_ser1]
  show _ = ((if k = 0 then c else 0) + at0 l k) % m
  by_cases h : k = 0
  · subst h; rw [if_pos ⟨rfl, by omega⟩, if_pos rfl, mod_self_mod, Int.add_comm]
  · rw [if_neg (fun e => h e.1), if_neg h, Int.zero_add]
theorem L_horn' (m : Int) (n : Nat) (f cs : List Int) : eqv m n (at0 (horn m n f cs)) (hs cs (at0 f)) := by
  induction cs with
  | nil => exact eqv1.2 fun k hk => by show at0 (List.replicate n 0) k % m = _; rw [at0_rep]; rfl
  | cons c cs ih =>
    rw [hs_cons]
    exact eqv_trans (L_addc (timesL_len _ _ _ _)) (eqv_ad eqv_rfl (eqv_trans (L_times _ _ _ _) (eqv_mlr _ ih)))
theorem L_horn {m : Int} {n : Nat} (f cs : List Int) (hc : cs.length ≤ n) : eqv m n (at0 (horn m n f cs)) (ev1 n (at0 cs) (at0 f)) := by
  rw [hs_ev1 hc]; exact L_horn' m n f cs
theorem T_addc {m : Int} {n : Nat} {c : Int} {l : List (List Int)} : eqv m n (atT (addcT m c n l)) (ad (ic c) (atT l)) := by
  refine eqv2.2 fun i j h => ?_
  unfold addcT
  rw [atT_tri h, ser_ad]
  show _ = ((if i = 0 then (fun k : Nat => if k = 0 then c else 0) else (fun _ => 0)) j + atT l i j) % m
  by_cases hi : i = 0
  · by_cases hj : j = 0
    · subst hi hj; rw [if_pos ⟨rfl, rfl⟩, if_pos rfl, if_pos rfl, mod_self_mod, Int.add_comm]
    · rw [if_neg (fun e => hj e.2), if_pos hi, if_neg hj, Int.zero_add]
  · rw [if_neg (fun e => hi e.1), if_neg hi, Int.zero_add]
theorem T_horn' (m : Int) (n : Nat) (t : List (List Int)) (cs : List Int) : eqv m n (atT (hornT m n t cs)) (hs cs (atT t)) := by
  induction cs with
  | nil => exact eqv2.2 fun i j h => by show atT (zeroT n) i j % m = _; unfold zeroT; rw [atT_tri h]; rfl
  | cons c cs ih =>
    rw [hs_cons]
    exact eqv_trans T_addc (eqv_ad eqv_rfl (eqv_trans (T_times _ _ _ _) (eqv_mlr _ ih)))
theorem T_horn {m : Int} {n : Nat} (t : List (List Int)) (cs : List Int) (hc : cs.length ≤ n) : eqv m n (atT (hornT m n t cs)) (ev1 n (at0 cs) (atT t)) := by
  rw [hs_ev1 hc]; exact T_horn' m n t cs
def onx (s : Nat → Int) : Nat → Nat → Int := fun i j => if j = 0 then s i else 0
def ony (s : Nat → Int) : Nat → Nat → Int := fun i j => if i = 0 then s j else 0
theorem onx_ml (f g : Nat → Int) : onx (ml f g) = ml (onx f) (onx g) := by
  funext p q
  rw [cv_conv2]
  unfold onx conv2
  by_cases h : q = 0
  · subst h
    rw [if_pos rfl, cv_conv]
    unfold conv
    refine sumN_congr fun i _ => ?_
    simp [sumN]
  · rw [if_neg h, sumN_zero fun i _ => sumN_zero fun j hj => ?_]
    by_cases hj0 : j = 0
    · subst hj0; show _ * (if q - 0 = 0 then g (p - i) else 0) = 0; rw [if_neg (show ¬ q - 0 = 0 by omega), Int.mul_zero]
    · show (if j = 0 then f i else 0) * _ = 0; rw [if_neg hj0, Int.zero_mul]
theorem ony_ml (f g : Nat → Int) : ony (ml f g) = ml (ony f) (ony g) := by
  funext p q
  rw [cv_conv2]
  unfold ony conv2
  by_cases h : p = 0
  · subst h
    rw [if_pos rfl, cv_conv]
    unfold conv
    simp [sumN]
  · rw [if_neg h, sumN_zero fun i hi => sumN_zero fun j hj => ?_]
    by_cases hj0 : i = 0
    · subst hj0; show _ * (if p - 0 = 0 then g (q - j) else 0) = 0; rw [if_neg (show ¬ p - 0 = 0 by omega), Int.mul_zero]
    · show (if i = 0 then f j else 0) * _ = 0; rw [if_neg hj0, Int.zero_mul]
theorem onx_oo : onx (oo : Nat → Int) = oo := by
  funext p q
  show (if q = 0 then (if p = 0 then (1 : Int) else 0) else 0) = (if p = 0 then (fun k : Nat => if k = 0 then (1 : Int) else 0) else (fun _ => 0)) q
  by_cases h : p = 0 <;> by_cases h' : q = 0 <;> simp [h, h']
theorem ony_oo : ony (oo : Nat → Int) = oo := by
  funext p q
  show (if p = 0 then (if q = 0 then (1 : Int) else 0) else 0) = (if p = 0 then (fun k : Nat => if k = 0 then (1 : Int) else 0) else (fun _ => 0)) q
  by_cases h : p = 0 <;> by_cases h' : q = 0 <;> simp [h, h']
theorem onx_pw (f : Nat → Int) (k : Nat) : onx (pw f k) = pw (onx f) k := by
  induction k with
  | zero => exact onx_oo
  | succ k ih => show onx (ml (pw f k) f) = _; rw [onx_ml, ih]; rfl
theorem ony_pw (f : Nat → Int) (k : Nat) : ony (pw f k) = pw (ony f) k := by
  induction k with
  | zero => exact ony_oo
  | succ k ih => show ony (ml (pw f k) f) = _; rw [ony_ml, ih]; rfl
theorem onx_ony (f g : Nat → Int) (p q : Nat) : (ml (onx f) (ony g) : Nat → Nat → Int) p q = f p * g q := by
  rw [cv_conv2]
  unfold conv2
  show sumN p _ + sumN (q + 1) (fun j => onx f p j * ony g (p - p) (q - j)) = _
  rw [sumN_zero fun i hi => sumN_zero fun j _ => by show _ * (if p - i = 0 then g (q - j) else 0) = 0; rw [if_neg (show ¬ p - i = 0 by omega), Int.mul_zero], Int.zero_add]
  rw [sumN_first, sumN_zero fun j hj => by show (if j + 1 = 0 then f p else 0) * _ = 0; rw [if_neg (by omega), Int.zero_mul]]
  unfold onx ony
  simp
theorem T_bot {m : Int} {n : Nat} {t : List (List Int)} (ht : PlaT m n t) (a b : List Int) : eqv m n (atT (botL m n t a b)) (ev2 n (atT t) (onx (at0 a)) (ony (at0 b))) := by
  refine eqv_trans (T_tri m n _) (eqv2.2 fun p q hpq => ?_)
  rw [ev2_sum, ser_sm, ser_sm]
  show botS n (atT t) (powL m n a) (powL m n b) n 0 p q % m = _
  unfold botS
  rw [show sumN 0 (fun j' => atT t n j' * (at0 (powL m n a n) p * at0 (powL m n b j') q)) = 0 from rfl, Int.add_zero, ← sumN_sm]
  refine sumN_mod fun i hi => ?_
  rw [ser_sm, ser_sm, ← sumN_sm]
  rw [sumN_cut (n := n) (k := n - i) (by omega) fun j hj _ => ?_]
  · refine sumN_mod fun j hj => ?_
    rw [ser_icml, ser_icml, ← onx_pw, ← ony_pw, onx_ony]
    show atT t i j * _ % m = (atT t i j * _) % m
    refine emod_congr_mul rfl (emod_congr_mul ?_ ?_)
    · exact eqv1.1 (L_pow m n a i) p (by omega)
    · exact eqv1.1 (L_pow m n b j) q (by omega)
  · rw [ser_icml, ser_icml, atT_out ht (by omega)]
    exact Int.zero_mul _
theorem lo_at0 {m : Int} {a : List Int} (h : at0 a 0 = 0) : lo m 1 (at0 a) := fun i => by
  by_cases hi : i = 0
  · subst hi; rw [h]; exact lo_zz _ _
  · rw [show 1 - i = 0 by omega]; exact lo_0 _ _
theorem lo_fun {m : Int} {k : Nat} {f : Nat → Int} (h : ∀ i, i < k → f i = 0) : lo m k f := fun i => by
  by_cases hi : i < k
  · rw [h i hi]; exact lo_zz _ _
  · rw [show k - i = 0 by omega]; exact lo_0 _ _
theorem lo_onx {m : Int} {f : Nat → Int} (h : f 0 = 0) : lo m 1 (onx f) := fun i => by
  by_cases hi : i = 0
  · subst hi
    exact lo_fun fun j hj => by unfold onx; rw [if_pos (by omega), h]
  · rw [show 1 - i = 0 by omega]; exact lo_0 _ _
theorem lo_ony {m : Int} {f : Nat → Int} (h : f 0 = 0) : lo m 1 (ony f) := fun i => by
  by_cases hi : i = 0
  · subst hi
    exact lo_fun fun j hj => by unfold ony; rw [if_pos rfl, show j = 0 by omega, h]
  · rw [show 1 - i = 0 by omega]; exact lo_0 _ _
theorem lw_of {m : Int} {n : Nat} {t : List (List Int)} (h2 : 2 ≤ n) (ht : PlaT m n t) (h : fauL m t n = []) : Lw m n (atT t) := by
  obtain ⟨h1, hs, ha⟩ := fauL_nil h
  refine ⟨h2, ?_, fun i hi => ?_, fun i j hij => ?_, fun p q k hpq => ?_⟩
  · rw [h1 0 (by omega)]; rfl
  · rw [h1 i hi]; rfl
  · rcases Nat.lt_trichotomy i j with e | e | e
    · rw [hs i j e hij]
    · rw [e]
    · rw [hs j i e (by omega)]
  · have h := ha p q k hpq
    unfold lefC rigC at h
    have e1 : sumN (n - k) (fun i => atT t i k * atT (powT m n t i) p q) % m = sm n (fun i => atT t i k * (pw (atT t) i : Nat → Nat → Int) p q) % m := by
      rw [← sumN_sm, sumN_cut (n := n) (k := n - k) (by omega) fun i hi _ => by rw [atT_out ht (by omega), Int.zero_mul]]
      exact sumN_mod fun i _ => emod_congr_mul rfl (eqv2.1 (T_pow m n t i) p q (by omega))
    have e2 : sumN (n - p) (fun j => atT t p j * atT (powT m n t j) q k) % m = sm n (fun j => atT t p j * (pw (atT t) j : Nat → Nat → Int) q k) % m := by
      rw [← sumN_sm, sumN_cut (n := n) (k := n - p) (by omega) fun j hj _ => by rw [atT_out ht (by omega), Int.zero_mul]]
      exact sumN_mod fun j _ => emod_congr_mul rfl (eqv2.1 (T_pow m n t j) q k (by omega))
    rw [← e1, ← e2, h]
theorem tab_range {m : Int} {n : Nat} {t : List (List Int)} (ht : PlaT m n t) {i j : Nat} (h : i + j < n) : 0 ≤ atT t i j ∧ atT t i j < m := by
  obtain ⟨hl, hr⟩ := ht
  have hi : i < t.length := by omega
  rw [atT_row hi]
  exact (hr i hi).2 _ (mem_at0 (by rw [(hr i hi).1]; omega))
theorem tab_eq {m : Int} {n : Nat} {t s : List (List Int)} (ht : PlaT m n t) (hs : PlaT m n s) (h : eqv m n (atT t) (atT s)) : t = s := by
  rw [tri_eq ht.1 (fun i hi => by rw [(ht.2 i hi).1, ht.1]), tri_eq hs.1 (fun i hi => by rw [(hs.2 i hi).1, hs.1])]
  refine tri_ext fun i j hij => ?_
  have := eqv2.1 h i j hij
  have a := tab_range ht hij
  have b := tab_range hs hij
  rwa [Int.emod_eq_of_lt a.1 a.2, Int.emod_eq_of_lt b.1 b.2] at this
def mon (k : Nat) (c : Int) : Nat → Int := fun i => if i = k then c else 0
theorem lo_mon (m : Int) (k : Nat) (c : Int) : lo m k (mon k c) := lo_fun fun i hi => if_neg (by omega)
theorem ev1_var {T : Type} [Rg T] {m : Int} {n : Nat} (h2 : 2 ≤ n) (a : T) : ev1 n (at0 (varL n)) a = a := by
  unfold ev1 ex
  rw [sm_congr (g := fun i => ml (ic (if i = 1 then 1 else 0)) (pw a i)) fun i hi => ?_, sum_one h2, pw_1]
  unfold varL
  rw [at0_set, at0_rep, List.length_replicate]
  by_cases h : i = 1
  · rw [if_pos ⟨h, by omega⟩, if_pos h]
  · rw [if_neg (fun e => h e.1), if_neg h]
end Go.Proofs.YteijannfbafdpaaGreatDoor

/- The laws of series: products, compositions, inverses, reversions. No program stands here. -/
set_option linter.unusedSimpArgs false
set_option linter.unusedVariables false
namespace Go.Proofs.YteijannfbafdpaaGreatDoor
open Rg

section ev
variable {T : Type} [Rg T]
theorem ev1_f {m : Int} {n k : Nat} {f g : Nat → Int} {a : T} (ha : lo m 1 a) (hk : k ≤ n) (h : eqv m k f g) : eqv m k (ev1 n f a) (ev1 n g a) := (hm1 (n := n) ha).eqv hk h
theorem ev1_a {m : Int} {n k : Nat} (f : Nat → Int) {a b : T} (h : eqv m k a b) : eqv m k (ev1 n f a) (ev1 n f b) := sm_eqv fun i _ => eqv_mll _ (pw_eqv h i)
theorem ev1_ev1 {m : Int} {n : Nat} {a : T} (ha : lo m 1 a) (f g : Nat → Int) : eqv m n (ev1 n (ev1 n f g) a) (ev1 n f (ev1 n g a)) :=
  (hm1 (n := n) ha).of_ex (χ := Rg.ic) (ψ := Rg.ic) (fun c => (hm1 ha).ic c) g f
theorem pw_late {m : Int} {k : Nat} {r e : T} (hr : lo m 1 r) (he : lo m (k + 1) e) : ∀ i, eqv m (k + 2) (pw (ad r e) (i + 2)) (pw r (i + 2)) := by
  have h1 : lo m 1 (ad r e) := lo_ad hr (lo_le he (by omega))
  have h0 : eqv m (k + 1) (ad r e) r := by
    have : eqv m (k + 1) (ad r e) (ad r zz) := eqv_ad eqv_rfl (eqv_lo he)
    rwa [ad_zz] at this
  have key : ∀ i, eqv m (k + 2) (pw (ad r e) (i + 2)) (pw r (i + 2)) := fun i => by
    have a : eqv m (1 + (k + 1)) (ml (ad r e) (pw (ad r e) (i + 1))) (ml (ad r e) (pw r (i + 1))) := eqv_up h1 (pw_eqv h0 (i + 1))
    have b : eqv m (1 + (k + 1)) (ml (pw r (i + 1)) (ad r e)) (ml (pw r (i + 1)) r) := eqv_up (lo_le (pw_lo hr (i + 1)) (by omega)) h0
    rw [show k + 2 = 1 + (k + 1) by omega]
    show eqv m _ (ml (pw (ad r e) (i + 1)) (ad r e)) (ml (pw r (i + 1)) r)
    rw [ml_comm (pw (ad r e) (i + 1))]
    refine eqv_trans a ?_
    rw [ml_comm (ad r e)]
    exact b
  exact key
theorem ev1_late {m : Int} {n k : Nat} (h2 : 2 ≤ n) (f : Nat → Int) {r e : T} (hr : lo m 1 r) (he : lo m (k + 1) e) : eqv m (k + 2) (ev1 n f (ad r e)) (ad (ev1 n f r) (ml (ic (f 1)) e)) := by
  obtain ⟨j, rfl⟩ : ∃ j, n = j + 2 := ⟨n - 2, by omega⟩
  unfold ev1 ex
  rw [sm_first, sm_first, sm_first (n := j + 1), sm_first (n := j)]
  have e1 : eqv m (k + 2) (sm j (fun i => ml (ic (f (i + 1 + 1))) (pw (ad r e) (i + 1 + 1)))) (sm j (fun i => ml (ic (f (i + 1 + 1))) (pw r (i + 1 + 1)))) := sm_eqv fun i _ => eqv_mll _ (pw_late hr he i)
  have e2 : ml (ic (f (0 + 1))) (pw (ad r e) (0 + 1)) = ad (ml (ic (f (0 + 1))) (pw r (0 + 1))) (ml (ic (f 1)) e) := by rw [pw_1, pw_1, ml_ad]
  rw [e2]
  refine eqv_trans (eqv_ad eqv_rfl (eqv_ad eqv_rfl e1)) (eqv_of ?_)
  show ad (ml _ (pw (ad r e) 0)) _ = ad (ad (ml _ (pw r 0)) _) _
  rw [show pw (ad r e) 0 = pw r 0 from rfl]
  ac_rfl
end ev

theorem sumN_only {n i : Nat} {f : Nat → Int} (hi : i < n) (h : ∀ j, j < n → j ≠ i → f j = 0) : sumN n f = f i := by
  induction n with
  | zero => omega
  | succ n ih =>
    simp only [sumN]
    by_cases e : i = n
    · subst e
      rw [sumN_zero fun j hj => h j (by omega) (by omega), Int.zero_add]
    · rw [ih (by omega) fun j hj hne => h j (by omega) hne, h n (by omega) (by omega), Int.add_zero]
def xS : Nat → Int := mon 1 1
theorem at0_var {n : Nat} (h : 2 ≤ n) : at0 (varL n) = xS := by
  funext i
  unfold varL xS mon
  rw [at0_set, at0_rep, List.length_replicate]
  by_cases hi : i = 1
  · rw [if_pos ⟨hi, by omega⟩, if_pos hi]
  · rw [if_neg (fun e => hi e.1), if_neg hi]
theorem ev1_x {m : Int} {n : Nat} (f : Nat → Int) : eqv m n (ev1 n f xS) f := by
  have : ∀ i, pw xS i = mon i 1 := by
    intro i
    induction i with
    | zero => funext k; show (oo : Nat → Int) k = _; rfl
    | succ i ih =>
      show ml (pw xS i) xS = _
      rw [ih]
      funext k
      rw [cv_conv]
      unfold conv
      by_cases hk : k = i + 1
      · subst hk
        rw [sumN_only (i := i) (by omega) fun j hj hne => by unfold mon; rw [if_neg hne, Int.zero_mul]]
        unfold mon xS mon; simp
      · rw [sumN_zero fun j hj => ?_]
        · unfold mon; rw [if_neg hk]
        · unfold mon xS mon
          by_cases hji : j = i
          · subst hji; rw [if_neg (show ¬ k - j = 1 by omega), Int.mul_zero]
          · rw [if_neg hji, Int.zero_mul]
  refine eqv1.2 fun k hk => ?_
  unfold ev1 ex
  rw [ser_sm, ← sumN_sm, sumN_only (i := k) hk fun j hj hne => by
    rw [ser_icml, this]
    show f j * mon j 1 k = 0
    unfold mon; rw [if_neg (fun e => hne e.symm), Int.mul_zero]]
  rw [ser_icml, this]
  show (f k * mon k 1 k) % m = _
  unfold mon; rw [if_pos rfl, Int.mul_one]
theorem lo_x (m : Int) : lo m 1 xS := lo_mon m 1 1
theorem ev1_xl {T : Type} [Rg T] {m : Int} {n : Nat} (h2 : 2 ≤ n) (a : T) : ev1 n xS a = a := by
  rw [← at0_var h2]; exact ev1_var (m := m) h2 a
theorem back_step {m : Int} {n k : Nat} (h2 : 2 ≤ n) (f : Nat → Int) {u v : Int} (hu : f 1 * u % m = 1 % m) {r : Nat → Int} (hr : lo m 1 r) (hk : 1 ≤ k) (h : eqv m (k + 1) (ev1 n f r) xS)
    (hv : v % m = (-((ev1 n f r : Nat → Int) (k + 1)) * u) % m) : eqv m (k + 2) (ev1 n f (ad r (mon (k + 1) v))) xS := by
  refine eqv_trans (ev1_late h2 f hr (lo_mon m (k + 1) v)) (eqv1.2 fun i hi => ?_)
  rw [ser_ad, ser_icml]
  show ((ev1 n f r : Nat → Int) i + f 1 * mon (k + 1) v i) % m = _
  by_cases hik : i = k + 1
  · subst hik
    unfold mon xS
    rw [if_pos rfl]
    unfold mon
    rw [if_neg (by omega)]
    generalize (ev1 n f r : Nat → Int) (k + 1) = c at hv ⊢
    have e1 : (f 1 * v) % m = (f 1 * (-c * u)) % m := emod_congr_mul rfl hv
    have e2 : f 1 * (-c * u) = f 1 * u * (-c) := by grind
    have e3 : (f 1 * u * (-c)) % m = (1 * (-c)) % m := emod_congr_mul hu rfl
    rw [Int.add_emod, e1, e2, e3, ← Int.add_emod]
    rw [Int.one_mul, Int.add_right_neg]
  · have := eqv1.1 h i (by omega)
    unfold mon
    rw [if_neg hik, Int.mul_zero, Int.add_zero, this]
theorem ev1_zz {T : Type} [Rg T] {m : Int} {n k : Nat} {f : Nat → Int} (h0 : f 0 % m = 0) : eqv m k (ev1 n f (zz : T)) zz := by
  cases n with
  | zero => exact eqv_rfl
  | succ n =>
    unfold ev1 ex
    rw [sm_first, sm_none fun i _ => by rw [pw_zz, ml_zz], ad_zz]
    have : eqv m k (ic (f 0) : T) (ic 0) := eqv_ic (by rw [h0, Int.zero_emod])
    rw [ic_0] at this
    have h := eqv_mlr (pw (zz : T) 0) this
    rwa [zz_ml] at h
theorem back_start {m : Int} {n : Nat} (h2 : 2 ≤ n) {f : Nat → Int} (h0 : f 0 % m = 0) {u : Int} (hu : f 1 * u % m = 1 % m) : eqv m 2 (ev1 n f (mon 1 u)) xS := by
  have h := ev1_late (m := m) (k := 0) h2 f (r := (zz : Nat → Int)) (e := mon 1 u) (lo_zz _ _) (lo_mon m 1 u)
  rw [zz_ad] at h
  refine eqv_trans h (eqv_trans (eqv_ad (ev1_zz h0) eqv_rfl) ?_)
  rw [zz_ad]
  refine eqv1.2 fun i hi => ?_
  rw [ser_icml]
  show (f 1 * mon 1 u i) % m = mon 1 1 i % m
  unfold mon
  split
  · exact hu
  · rw [Int.mul_zero]
theorem back_ex {m : Int} {n : Nat} (h2 : 2 ≤ n) {f : Nat → Int} (h0 : f 0 % m = 0) {u : Int} (hu : f 1 * u % m = 1 % m) : ∃ g : Nat → Int, lo m 1 g ∧ g 1 = u ∧ eqv m n (ev1 n f g) xS := by
  have key : ∀ k, ∃ g : Nat → Int, lo m 1 g ∧ g 1 = u ∧ eqv m (k + 2) (ev1 n f g) xS := by
    intro k
    induction k with
    | zero => exact ⟨mon 1 u, lo_mon m 1 u, if_pos rfl, back_start h2 h0 hu⟩
    | succ k ih =>
      obtain ⟨g, hg, h1, he⟩ := ih
      refine ⟨ad g (mon (k + 1 + 1) (-((ev1 n f g : Nat → Int) (k + 1 + 1)) * u)), lo_ad hg (lo_le (lo_mon _ _ _) (by omega)), ?_, back_step h2 f hu hg (by omega) he rfl⟩
      rw [ser_ad]
      show g 1 + mon _ _ 1 = u
      unfold mon
      rw [if_neg (by omega), Int.add_zero, h1]
  obtain ⟨g, hg, h1, he⟩ := key n
  exact ⟨g, hg, h1, eqv_le he (by omega)⟩
theorem back_left {m : Int} {n : Nat} (h2 : 2 ≤ n) {f g : Nat → Int} (hf : lo m 1 f) (hg : lo m 1 g) (he : eqv m n (ev1 n f g) xS) {u : Int} (hu : g 1 * u % m = 1 % m) : eqv m n (ev1 n g f) xS := by
  have g0 : g 0 % m = 0 := by have := (eqv1 (n := 1)).1 (eqv_lo hg) 0 (by omega); rw [this]; rfl
  obtain ⟨h, hh, _, hx⟩ := back_ex h2 g0 hu
  have e1 : eqv m n f h := by
    refine eqv_trans (eqv_symm (ev1_x f)) (eqv_trans (ev1_a f (eqv_symm hx)) ?_)
    refine eqv_trans (eqv_symm (ev1_ev1 hh f g)) ?_
    refine eqv_trans (ev1_f hh (Nat.le_refl _) he) (eqv_of (ev1_xl (m := m) h2 h))
  exact eqv_trans (ev1_a g e1) hx
theorem revTo_out (m : Int) (n : Nat) (a : List Int) : ∀ k i, k < i → at0 (revTo m n a k) i = 0
  | 0, i, _ => by unfold revTo; exact at0_rep _ _
  | 1, i, h => by unfold revTo; rw [at0_set, if_neg (by omega)]; exact at0_rep _ _
  | k + 2, i, h => by unfold revTo; rw [at0_set, if_neg (by omega)]; exact revTo_out m n a (k + 1) i (by omega)
theorem revL_ok {m : Int} (hm : 0 < m) {n : Nat} (h2 : 2 ≤ n) {a : List Int} (la : a.length = n) (a0 : at0 a 0 = 0) (hu : at0 a 1 * invM m (at0 a 1) % m = 1 % m) : eqv m n (ev1 n (at0 a) (at0 (revL m n a))) xS := by
  have key : ∀ k, k + 1 < n → eqv m (k + 2) (ev1 n (at0 a) (at0 (revTo m n a (k + 1)))) xS := by
    intro k
    induction k with
    | zero =>
      intro _
      have e : at0 (revTo m n a 1) = mon 1 (invM m (at0 a 1)) := by
        funext i
        unfold revTo mon
        rw [at0_set, at0_rep, List.length_replicate]
        by_cases hi : i = 1
        · rw [if_pos ⟨hi, by omega⟩, if_pos hi]
        · rw [if_neg (fun e => hi e.1), if_neg hi]
      rw [e]
      exact back_start h2 (by rw [a0, Int.zero_emod]) hu
    | succ k ih =>
      intro hk
      have ih := ih (by omega)
      have r1 : lo m 1 (at0 (revTo m n a (k + 1))) := lo_at0 (revTo_0 m n a (k + 1))
      have e : at0 (revTo m n a (k + 2)) = ad (at0 (revTo m n a (k + 1))) (mon (k + 1 + 1) ((-(at0 (horn m n (revTo m n a (k + 1)) a) (k + 2)) * invM m (at0 a 1)) % m)) := by
        funext i
        rw [ser_ad]
        show at0 ((revTo m n a (k + 1)).set (k + 2) _) i = at0 _ i + mon _ _ i
        rw [at0_set, revTo_len]
        unfold mon
        by_cases hi : i = k + 2
        · rw [if_pos ⟨hi, by omega⟩, if_pos (by omega), hi, revTo_out m n a (k + 1) (k + 2) (by omega), Int.zero_add]
        · rw [if_neg (fun e => hi e.1), if_neg (by omega), Int.add_zero]
      show eqv m (k + 1 + 2) (ev1 n (at0 a) (at0 (revTo m n a (k + 2)))) xS
      rw [e]
      refine back_step h2 (at0 a) hu r1 (by omega) ih ?_
      rw [mod_self_mod]
      have := eqv1.1 (L_horn (m := m) (revTo m n a (k + 1)) a (n := n) (by omega)) (k + 2) (by omega)
      refine emod_congr_mul ?_ rfl
      rw [Int.neg_emod_eq_sub_emod, Int.neg_emod_eq_sub_emod, Int.sub_emod, this, ← Int.sub_emod]
  have := key (n - 2) (by omega)
  rw [show n - 2 + 1 = n - 1 by omega, show n - 2 + 2 = n by omega] at this
  exact this
theorem revTo_1 (m : Int) {n : Nat} (h2 : 2 ≤ n) (a : List Int) : ∀ k, at0 (revTo m n a (k + 1)) 1 = invM m (at0 a 1)
  | 0 => by unfold revTo; rw [at0_set, if_pos ⟨rfl, by simp; omega⟩]
  | k + 1 => by unfold revTo; rw [at0_set, if_neg (by omega)]; exact revTo_1 m h2 a k
end Go.Proofs.YteijannfbafdpaaGreatDoor

/- The Weierstrass series: the program's iteration and the reference's recursion make the same list. No program stands here. -/
set_option linter.unusedSimpArgs false
set_option linter.unusedVariables false
namespace Go.Proofs.YteijannfbafdpaaGreatDoor
open Rg

end Go.Proofs.YteijannfbafdpaaGreatDoor

/- Inverses of series with the constant 1, as the program and the reference make them. No program stands here. -/
set_option linter.unusedSimpArgs false
set_option linter.unusedVariables false
namespace Go.Proofs.YteijannfbafdpaaGreatDoor
open Rg

section inv
variable {T : Type} [Rg T]
end inv

section law
variable {T : Type} [Rg T]
end law
end Go.Proofs.YteijannfbafdpaaGreatDoor

/- The Weierstrass law: the program's table and the reference's are one. No program stands here. -/
set_option linter.unusedSimpArgs false
set_option linter.unusedVariables false
namespace Go.Proofs.YteijannfbafdpaaGreatDoor
open Rg

def scaT (m : Int) (n : Nat) (c : Int) (t : List (List Int)) : List (List Int) := tri n (fun i j => (c * atT t i j) % m)
section tabs
variable (m : Int) (n : Nat) (a : Nat → Int) (W : List Int)
end tabs
section tabr
variable (m : Int) (n : Nat) (a : Nat → Int) (W : List Int)
end tabr
end Go.Proofs.YteijannfbafdpaaGreatDoor
