/- Powers of series and planes; curves put into planes; a series of a plane, told by the plane's powers. No program stands here. -/
import Derived.Test.YtflebfmkgmhccaaPlb
set_option linter.unusedSimpArgs false
set_option linter.unusedVariables false
namespace Go.Proofs.Ytflebfmkgmhccaa

theorem emod_congr_add {a a' b b' m : Int} (h : a % m = a' % m) (k : b % m = b' % m) : (a + b) % m = (a' + b') % m := by rw [Int.add_emod, h, k, ← Int.add_emod]
theorem emod_congr_mul {a a' b b' m : Int} (h : a % m = a' % m) (k : b % m = b' % m) : (a * b) % m = (a' * b') % m := by rw [Int.mul_emod, h, k, ← Int.mul_emod]
theorem emod_congr_sub {a a' b b' m : Int} (h : a % m = a' % m) (k : b % m = b' % m) : (a - b) % m = (a' - b') % m := by rw [Int.sub_emod, h, k, ← Int.sub_emod]
theorem emod_idem (a m : Int) : a % m % m = a % m := Int.emod_emod_of_dvd _ (Int.dvd_refl m)
theorem one_mod {m : Int} (hm : 2 ≤ m) : (1 : Int) % m = 1 := Int.emod_eq_of_lt (by omega) (by omega)

/-- The powers of a series. -/
def powL (m : Int) (n : Nat) (a : List Int) : Nat → List Int
  | 0 => (List.replicate n 0).set 0 (1 % m)
  | k + 1 => timesL m n (powL m n a k) a
theorem powL_len (m : Int) (n : Nat) (a : List Int) (k : Nat) : (powL m n a k).length = n := by
  cases k
  · simp [powL]
  · exact timesL_len _ _ _ _
theorem powL_range {m : Int} (hm : 0 < m) {n : Nat} {a : List Int} {k : Nat} : ∀ x ∈ powL m n a k, 0 ≤ x ∧ x < m := by
  cases k
  · intro x hx
    rcases List.mem_or_eq_of_mem_set hx with h | rfl
    · simp at h; omega
    · exact mod_lt' hm
  · exact timesL_range hm
/-- The first k powers. -/
def powsL (m : Int) (n : Nat) (a : List Int) (k : Nat) : List (List Int) := (List.range k).map (powL m n a)
theorem powsL_len (m : Int) (n : Nat) (a : List Int) (k : Nat) : (powsL m n a k).length = k := by simp [powsL]
theorem powsL_get {m : Int} {n : Nat} {a : List Int} {k i : Nat} (h : i < k) : (powsL m n a k)[i]? = some (powL m n a i) := by simp [powsL, h]
theorem powsL_snoc (m : Int) (n : Nat) (a : List Int) (k : Nat) : powsL m n a (k + 1) = powsL m n a k ++ [powL m n a k] := by simp [powsL, List.range_succ]
theorem powsL_1 (m : Int) (n : Nat) (a : List Int) : powsL m n a 1 = [powL m n a 0] := rfl
theorem powL_0 {m : Int} {n k : Nat} {a : List Int} (h : k < n) : at0 (powL m n a 0) k = if k = 0 then 1 % m else 0 := by
  unfold powL
  rw [mk_zero, mk_set, mk_at h]
theorem conv_low {a b : Nat → Int} {e k : Nat} (ha : ∀ i, i < e → a i = 0) (hb : b 0 = 0) (h : k < e + 1) : conv a b k = 0 := by
  unfold conv
  refine sumN_zero fun i hi => ?_
  by_cases h1 : i < e
  · rw [ha i h1, Int.zero_mul]
  · rw [show k - i = 0 by omega, hb, Int.mul_zero]
/-- The powers of a curve begin late. -/
theorem powL_low {m : Int} {n : Nat} {a : List Int} (ha : at0 a 0 = 0) (k : Nat) : ∀ i, i < k → at0 (powL m n a k) i = 0 := by
  induction k with
  | zero => intro i hi; omega
  | succ k ih =>
    intro i hi
    by_cases hn : i < n
    · unfold powL timesL
      rw [mk_at hn, conv_low ih ha hi]; simp
    · exact at0_out (by rw [powL_len]; omega)

/-- What has been added up at t^k: the rows before i, and of the row i the places before j. -/
def putS (n : Nat) (t : Nat → Nat → Int) (P Q : Nat → List Int) (i j k : Nat) : Int :=
  sumN i (fun i' => sumN (n - i') (fun j' => t i' j' * conv (at0 (P i')) (at0 (Q j')) k)) + sumN j (fun j' => t i j' * conv (at0 (P i)) (at0 (Q j')) k)
def putTo (m : Int) (n : Nat) (t : Nat → Nat → Int) (P Q : Nat → List Int) (i j : Nat) : List Int := mk n (fun k => putS n t P Q i j k % m)
theorem putTo_len (m : Int) (n : Nat) (t : Nat → Nat → Int) (P Q : Nat → List Int) (i j : Nat) : (putTo m n t P Q i j).length = n := mk_len _ _
theorem putTo_range {m : Int} (hm : 0 < m) {n : Nat} {t : Nat → Nat → Int} {P Q : Nat → List Int} {i j : Nat} : ∀ x ∈ putTo m n t P Q i j, 0 ≤ x ∧ x < m := by
  intro x hx
  obtain ⟨k, _, rfl⟩ := mem_mk hx
  exact mod_lt' hm
theorem putTo_0 (m : Int) (n : Nat) (t : Nat → Nat → Int) (P Q : Nat → List Int) : List.replicate n (0 : Int) = putTo m n t P Q 0 0 := by
  rw [mk_zero]; exact mk_ext fun k _ => by simp [putS, sumN]
theorem scaleL_at {m c : Int} {a : List Int} {k : Nat} (h : k < a.length) : at0 (scaleL m c a) k = c * at0 a k % m := by
  unfold scaleL at0 List.getD
  rw [List.getElem?_map, List.getElem?_eq_getElem h]; rfl
theorem scaleL_range {m : Int} (hm : 0 < m) {c : Int} {a : List Int} : ∀ x ∈ scaleL m c a, 0 ≤ x ∧ x < m := by
  intro x hx
  unfold scaleL at hx
  obtain ⟨y, _, rfl⟩ := List.mem_map.1 hx
  exact mod_lt' hm
theorem putTo_step {m : Int} {n : Nat} {t : Nat → Nat → Int} {P Q : Nat → List Int} {i j : Nat} :
    addL m n (putTo m n t P Q i j) (scaleL m (t i j) (timesL m n (P i) (Q j))) = putTo m n t P Q i (j + 1) := by
  unfold addL
  refine mk_ext fun k hk => ?_
  rw [scaleL_at (by rw [timesL_len]; exact hk)]
  unfold putTo timesL
  rw [mk_at hk, mk_at hk]
  have e : putS n t P Q i (j + 1) k = putS n t P Q i j k + t i j * conv (at0 (P i)) (at0 (Q j)) k := by
    unfold putS
    simp only [sumN]; omega
  rw [e]
  refine emod_congr_add (emod_idem _ _) ?_
  rw [emod_idem]
  exact emod_congr_mul rfl (emod_idem _ _)
theorem putTo_skip {m : Int} {n : Nat} {t : Nat → Nat → Int} {P Q : Nat → List Int} {i j : Nat} (h : t i j = 0) : putTo m n t P Q i j = putTo m n t P Q i (j + 1) := by
  refine mk_ext fun k hk => ?_
  unfold putS
  simp only [sumN]; rw [h, Int.zero_mul, Int.add_zero]
theorem putTo_row {m : Int} {n : Nat} {t : Nat → Nat → Int} {P Q : Nat → List Int} {i j : Nat} (h : j = n - i) : putTo m n t P Q i j = putTo m n t P Q (i + 1) 0 := by
  subst h
  refine mk_ext fun k hk => ?_
  unfold putS
  simp only [sumN, Int.add_zero]
/-- Curves put into a plane. -/
def putL (m : Int) (n : Nat) (t : List (List Int)) (a b : List Int) : List Int := putTo m n (atT t) (powL m n a) (powL m n b) n 0

/-- What has been added up at x^p y^q. -/
def botS (n : Nat) (t : Nat → Nat → Int) (P Q : Nat → List Int) (i j p q : Nat) : Int :=
  sumN i (fun i' => sumN (n - i') (fun j' => t i' j' * (at0 (P i') p * at0 (Q j') q))) + sumN j (fun j' => t i j' * (at0 (P i) p * at0 (Q j') q))
def botTo (m : Int) (n : Nat) (t : Nat → Nat → Int) (P Q : Nat → List Int) (i j : Nat) : List (List Int) := tri n (fun p q => botS n t P Q i j p q % m)
theorem botTo_len (m : Int) (n : Nat) (t : Nat → Nat → Int) (P Q : Nat → List Int) (i j : Nat) : (botTo m n t P Q i j).length = n := tri_len _ _
theorem botTo_ok {m : Int} (hm : 0 < m) (n : Nat) (t : Nat → Nat → Int) (P Q : Nat → List Int) (i j : Nat) : PlaT m n (botTo m n t P Q i j) := tri_ok fun _ _ _ => mod_lt' hm
theorem botTo_0 (m : Int) (n : Nat) (t : Nat → Nat → Int) (P Q : Nat → List Int) : zeroT n = botTo m n t P Q 0 0 := tri_ext fun p q _ => by simp [botS, sumN]
theorem botS_step (n : Nat) (t : Nat → Nat → Int) (P Q : Nat → List Int) (i j p q : Nat) : botS n t P Q i (j + 1) p q = botS n t P Q i j p q + t i j * (at0 (P i) p * at0 (Q j) q) := by
  unfold botS
  simp only [sumN]; omega
theorem botTo_skip {m : Int} {n : Nat} {t : Nat → Nat → Int} {P Q : Nat → List Int} {i j : Nat} (h : t i j = 0) : botTo m n t P Q i j = botTo m n t P Q i (j + 1) :=
  tri_ext fun p q _ => by rw [botS_step, h, Int.zero_mul, Int.add_zero]
theorem botTo_row {m : Int} {n : Nat} {t : Nat → Nat → Int} {P Q : Nat → List Int} {i j : Nat} (h : j = n - i) : botTo m n t P Q i j = botTo m n t P Q (i + 1) 0 := by
  subst h
  exact tri_ext fun p q _ => by unfold botS; simp only [sumN, Int.add_zero]
/-- A curve of x and a curve of y put into a plane. -/
def botL (m : Int) (n : Nat) (t : List (List Int)) (a b : List Int) : List (List Int) := botTo m n (atT t) (powL m n a) (powL m n b) n 0
/-- The outer product of two series is added. -/
def outT (m : Int) (n : Nat) (f : List (List Int)) (a b : List Int) : List (List Int) := tri n (fun p q => (atT f p q + at0 a p * at0 b q) % m)
theorem outT_len (m : Int) (n : Nat) (f : List (List Int)) (a b : List Int) : (outT m n f a b).length = n := tri_len _ _
theorem botTo_step {m : Int} {n : Nat} {t : Nat → Nat → Int} {P Q : Nat → List Int} {i j : Nat} (hP : (P i).length = n) :
    outT m n (botTo m n t P Q i j) (scaleL m (t i j) (P i)) (Q j) = botTo m n t P Q i (j + 1) := by
  unfold outT
  refine tri_ext fun p q h => ?_
  unfold botTo
  rw [atT_tri h, scaleL_at (by omega), botS_step]
  refine emod_congr_add (emod_idem _ _) ?_
  rw [← Int.mul_assoc]
  exact emod_congr_mul (emod_idem _ _) rfl

/-- The powers of a plane. -/
def powT (m : Int) (n : Nat) (t : List (List Int)) : Nat → List (List Int)
  | 0 => tri n (fun i j => if i = 0 ∧ j = 0 then 1 % m else 0)
  | k + 1 => timesT m n (powT m n t k) t
theorem powT_len (m : Int) (n : Nat) (t : List (List Int)) (k : Nat) : (powT m n t k).length = n := by
  cases k <;> exact tri_len _ _
theorem powT_ok {m : Int} (hm : 0 < m) (n : Nat) (t : List (List Int)) (k : Nat) : PlaT m n (powT m n t k) := by
  cases k
  · exact tri_ok fun i j _ => by
      split
      · exact mod_lt' hm
      · omega
  · exact timesT_ok hm _ _ _
def powsT (m : Int) (n : Nat) (t : List (List Int)) (k : Nat) : List (List (List Int)) := (List.range k).map (powT m n t)
theorem powsT_len (m : Int) (n : Nat) (t : List (List Int)) (k : Nat) : (powsT m n t k).length = k := by simp [powsT]
theorem powsT_get {m : Int} {n : Nat} {t : List (List Int)} {k i : Nat} (h : i < k) : (powsT m n t k)[i]? = some (powT m n t i) := by simp [powsT, h]
theorem powsT_snoc (m : Int) (n : Nat) (t : List (List Int)) (k : Nat) : powsT m n t (k + 1) = powsT m n t k ++ [powT m n t k] := by simp [powsT, List.range_succ]
theorem powsT_1 (m : Int) (n : Nat) (t : List (List Int)) : powsT m n t 1 = [powT m n t 0] := rfl

theorem conv2_mod {a a' b b' : Nat → Nat → Int} {m : Int} {p q : Nat} (ha : ∀ i j, i ≤ p → j ≤ q → a i j % m = a' i j % m) (hb : ∀ i j, i ≤ p → j ≤ q → b i j % m = b' i j % m) : conv2 a b p q % m = conv2 a' b' p q % m :=
  sumN_mod fun i hi => sumN_mod fun j hj => emod_congr_mul (ha i j (by omega) (by omega)) (hb _ _ (by omega) (by omega))
theorem conv2_add (a a' b : Nat → Nat → Int) (p q : Nat) : conv2 (fun i j => a i j + a' i j) b p q = conv2 a b p q + conv2 a' b p q := by
  unfold conv2
  rw [← sumN_add]
  refine sumN_ext fun i _ => ?_
  rw [← sumN_add]
  exact sumN_ext fun j _ => Int.add_mul _ _ _
theorem conv2_zero (b : Nat → Nat → Int) (p q : Nat) : conv2 (fun _ _ => 0) b p q = 0 := sumN_zero fun i _ => sumN_zero fun j _ => Int.zero_mul _
theorem conv2_scale (c : Int) (a b : Nat → Nat → Int) (p q : Nat) : conv2 (fun i j => c * a i j) b p q = c * conv2 a b p q := by
  unfold conv2
  rw [← sumN_mulc]
  refine sumN_ext fun i _ => ?_
  rw [← sumN_mulc]
  exact sumN_ext fun j _ => Int.mul_assoc _ _ _
theorem conv2_sum (k : Nat) (c : Nat → Int) (A : Nat → Nat → Nat → Int) (b : Nat → Nat → Int) (p q : Nat) : conv2 (fun i j => sumN k (fun e => c e * A e i j)) b p q = sumN k (fun e => c e * conv2 (A e) b p q) := by
  induction k with
  | zero => simp only [sumN]; exact conv2_zero b p q
  | succ k ih =>
    simp only [sumN]
    rw [conv2_add, ih, conv2_scale]
theorem sumN_one (f : Nat → Int) : sumN 1 f = f 0 := by simp [sumN]
theorem sumN_shift (n : Nat) (f : Nat → Int) : sumN (n + 1) f = f 0 + sumN n (fun j => f (j + 1)) := by
  induction n with
  | zero => simp [sumN]
  | succ n ih => rw [sumN, ih]; simp only [sumN]; omega
/-- A number is added at the constant. -/
def addcT (m c : Int) (n : Nat) (t : List (List Int)) : List (List Int) := tri n (fun i j => if i = 0 ∧ j = 0 then (atT t 0 0 + c) % m else atT t i j)
/-- A series of a plane, in Horner's way. -/
def hornT (m : Int) (n : Nat) (t : List (List Int)) : List Int → List (List Int)
  | [] => zeroT n
  | c :: cs => addcT m c n (timesT m n (hornT m n t cs) t)
theorem hornT_len (m : Int) (n : Nat) (t : List (List Int)) (cs : List Int) : (hornT m n t cs).length = n := by
  cases cs <;> exact tri_len _ _
theorem hornT_ok {m : Int} (hm : 0 < m) (n : Nat) (t : List (List Int)) (cs : List Int) : PlaT m n (hornT m n t cs) := by
  cases cs with
  | nil => exact zeroT_ok hm n
  | cons c cs =>
    refine tri_ok fun i j h => ?_
    split
    · exact mod_lt' hm
    · unfold timesT; rw [atT_tri h]; exact mod_lt' hm
theorem hornT_drop {m : Int} {n : Nat} {t : List (List Int)} {a : List Int} {i : Nat} {x : Int} (h : a[i]? = some x) : hornT m n t (a.drop i) = addcT m x n (timesT m n (hornT m n t (a.drop (i + 1))) t) := by
  obtain ⟨hl, rfl⟩ := List.getElem?_eq_some_iff.1 h
  rw [List.drop_eq_getElem_cons hl]; rfl
/-- A series of a plane, by the plane's powers. -/
theorem hornT_pow {m : Int} {n : Nat} {t : List (List Int)} (cs : List Int) : ∀ {i j : Nat}, i + j < n → atT (hornT m n t cs) i j = sumN cs.length (fun k => at0 cs k * atT (powT m n t k) i j) % m := by
  induction cs with
  | nil => intro i j h; unfold hornT zeroT; rw [atT_tri h]; simp [sumN]
  | cons c cs ih =>
    intro i j h
    rw [List.length_cons, sumN_shift]
    have e1 : ∀ k, at0 (c :: cs) (k + 1) = at0 cs k := fun k => rfl
    have e0 : at0 (c :: cs) 0 = c := rfl
    simp only [e1, e0]
    have hT : atT (timesT m n (hornT m n t cs) t) i j % m = sumN cs.length (fun k => at0 cs k * atT (powT m n t (k + 1)) i j) % m := by
      unfold timesT
      rw [atT_tri h, emod_idem]
      rw [conv2_mod (m := m) (a' := fun i j => sumN cs.length (fun k => at0 cs k * atT (powT m n t k) i j)) (b' := atT t) (fun i' j' h1 h2 => by rw [ih (by omega), emod_idem]) (fun _ _ _ _ => rfl)]
      rw [conv2_sum]
      refine sumN_mod fun k _ => emod_congr_mul rfl ?_
      show _ = atT (timesT m n (powT m n t k) t) i j % m
      unfold timesT
      rw [atT_tri h, emod_idem]
    have h0 : atT (powT m n t 0) i j = if i = 0 ∧ j = 0 then 1 % m else 0 := by unfold powT; rw [atT_tri h]
    rw [h0]
    unfold hornT addcT
    rw [atT_tri h]
    by_cases e : i = 0 ∧ j = 0
    · rw [if_pos e, if_pos e]
      obtain ⟨rfl, rfl⟩ := e
      rw [Int.add_comm]
      refine emod_congr_add ?_ hT
      conv => lhs; rw [← Int.mul_one c]
      exact emod_congr_mul rfl (emod_idem _ _).symm
    · rw [if_neg e, if_neg e, Int.mul_zero, Int.zero_add, ← hT]
      unfold timesT
      rw [atT_tri h, emod_idem]
end Go.Proofs.Ytflebfmkgmhccaa
