/- Lemmas. -/

/- Rings with an order; their power series; sums and powers. No program stands here. -/
set_option linter.unusedSimpArgs false
set_option linter.unusedVariables false
namespace Go.Proofs.YteijannfbafdpaaGreatDoor

class Rg (T : Type) where
  zz : T
  oo : T
  ad : T → T → T
  ml : T → T → T
  ic : Int → T
  lo : Int → Nat → T → Prop
  ad_assoc : ∀ a b c : T, ad (ad a b) c = ad a (ad b c)
  ad_comm : ∀ a b : T, ad a b = ad b a
  ad_zz : ∀ a : T, ad a zz = a
  ml_assoc : ∀ a b c : T, ml (ml a b) c = ml a (ml b c)
  ml_comm : ∀ a b : T, ml a b = ml b a
  ml_oo : ∀ a : T, ml a oo = a
  ml_zz : ∀ a : T, ml a zz = zz
  ml_ad : ∀ a b c : T, ml a (ad b c) = ad (ml a b) (ml a c)
  ic_0 : ic 0 = zz
  ic_1 : ic 1 = oo
  ic_ad : ∀ a b : Int, ic (a + b) = ad (ic a) (ic b)
  ic_ml : ∀ a b : Int, ic (a * b) = ml (ic a) (ic b)
  lo_0 : ∀ m (x : T), lo m 0 x
  lo_le : ∀ {m : Int} {j k : Nat} {x : T}, lo m k x → j ≤ k → lo m j x
  lo_zz : ∀ m k, lo m k zz
  lo_ad : ∀ {m : Int} {k : Nat} {x y : T}, lo m k x → lo m k y → lo m k (ad x y)
  lo_ml : ∀ {m : Int} {j k : Nat} {x y : T}, lo m j x → lo m k y → lo m (j + k) (ml x y)
  lo_ic : ∀ {m : Int} {k : Nat} {c : Int}, m ∣ c → lo m k (ic c)
open Rg

instance {T : Type} [Rg T] : Std.Associative (ad : T → T → T) := ⟨ad_assoc⟩
instance {T : Type} [Rg T] : Std.Commutative (ad : T → T → T) := ⟨ad_comm⟩
instance {T : Type} [Rg T] : Std.Associative (ml : T → T → T) := ⟨ml_assoc⟩
instance {T : Type} [Rg T] : Std.Commutative (ml : T → T → T) := ⟨ml_comm⟩

section gen
variable {T : Type} [Rg T]
theorem zz_ad (a : T) : ad zz a = a := by rw [ad_comm, ad_zz]
theorem zz_ml (a : T) : ml zz a = zz := by rw [ml_comm, ml_zz]
theorem oo_ml (a : T) : ml oo a = a := by rw [ml_comm, ml_oo]
theorem ad_ml (a b c : T) : ml (ad a b) c = ad (ml a c) (ml b c) := by rw [ml_comm, ml_ad, ml_comm c a, ml_comm c b]
def ng (a : T) : T := ml (ic (-1)) a
theorem ad_ng (a : T) : ad a (ng a) = zz := by
  have h : ad (ml (ic 1) a) (ml (ic (-1)) a) = zz := by rw [← ad_ml, ← ic_ad, show (1 + -1 : Int) = 0 from rfl, ic_0, zz_ml]
  rwa [ic_1, oo_ml] at h
theorem ng_ad (a : T) : ad (ng a) a = zz := by rw [ad_comm, ad_ng]
theorem ng_zz : ng (zz : T) = zz := ml_zz _
theorem ng_ng (a : T) : ng (ng a) = a := by
  show ml (ic (-1)) (ml (ic (-1)) a) = a
  rw [← ml_assoc, ← ic_ml, show (-1 * -1 : Int) = 1 from rfl, ic_1, oo_ml]
theorem ng_sum (a b : T) : ng (ad a b) = ad (ng a) (ng b) := ml_ad _ _ _
theorem ng_ml (a b : T) : ml (ng a) b = ng (ml a b) := ml_assoc _ _ _
theorem ml_ng (a b : T) : ml a (ng b) = ng (ml a b) := by rw [ml_comm, ng_ml, ml_comm]
theorem lo_ng {m : Int} {k : Nat} {x : T} (h : lo m k x) : lo m k (ng x) := by
  have := lo_ml (lo_0 m (ic (-1) : T)) h
  rwa [Nat.zero_add] at this
theorem lo_mul {m : Int} {k : Nat} {x : T} (a : T) (h : lo m k x) : lo m k (ml a x) := by
  have := lo_ml (lo_0 m a) h
  rwa [Nat.zero_add] at this
theorem ad_left {a b c : T} (h : ad a b = ad a c) : b = c := by
  have : ad (ng a) (ad a b) = ad (ng a) (ad a c) := by rw [h]
  rwa [← ad_assoc, ← ad_assoc, ng_ad, zz_ad, zz_ad] at this
theorem ad_4 (a b c d : T) : ad (ad a b) (ad c d) = ad (ad a c) (ad b d) := by ac_rfl

def eqv (m : Int) (n : Nat) (x y : T) : Prop := lo m n (ad x (ng y))
theorem eqv_rfl {m : Int} {n : Nat} {x : T} : eqv m n x x := by unfold eqv; rw [ad_ng]; exact lo_zz _ _
theorem eqv_of {m : Int} {n : Nat} {x y : T} (h : x = y) : eqv m n x y := h ▸ eqv_rfl
theorem eqv_symm {m : Int} {n : Nat} {x y : T} (h : eqv m n x y) : eqv m n y x := by
  have := lo_ng h
  rw [ng_sum, ng_ng, ad_comm] at this
  exact this
theorem eqv_trans {m : Int} {n : Nat} {x y z : T} (h : eqv m n x y) (k : eqv m n y z) : eqv m n x z := by
  have := lo_ad h k
  rw [show ad (ad x (ng y)) (ad y (ng z)) = ad (ad (ng y) y) (ad x (ng z)) by ac_rfl, ng_ad, zz_ad] at this
  exact this
theorem eqv_le {m : Int} {n k : Nat} {x y : T} (h : eqv m n x y) (hk : k ≤ n) : eqv m k x y := lo_le h hk
theorem eqv_ad {m : Int} {n : Nat} {x y x' y' : T} (h : eqv m n x x') (k : eqv m n y y') : eqv m n (ad x y) (ad x' y') := by
  have := lo_ad h k
  unfold eqv
  rw [ng_sum, ad_4]
  exact this
theorem eqv_mll {m : Int} {n : Nat} {y y' : T} (x : T) (k : eqv m n y y') : eqv m n (ml x y) (ml x y') := by
  have := lo_mul x k
  rwa [ml_ad, ml_ng] at this
theorem eqv_mlr {m : Int} {n : Nat} {y y' : T} (x : T) (k : eqv m n y y') : eqv m n (ml y x) (ml y' x) := by
  rw [ml_comm y, ml_comm y']; exact eqv_mll x k
theorem eqv_ml {m : Int} {n : Nat} {x y x' y' : T} (h : eqv m n x x') (k : eqv m n y y') : eqv m n (ml x y) (ml x' y') :=
  eqv_trans (eqv_mlr _ h) (eqv_mll _ k)
theorem eqv_lo {m : Int} {n : Nat} {x : T} (h : lo m n x) : eqv m n x zz := by unfold eqv; rw [ng_zz, ad_zz]; exact h
theorem lo_eqv {m : Int} {n k : Nat} {x y : T} (h : eqv m n x y) (hk : k ≤ n) (hy : lo m k y) : lo m k x := by
  have := lo_ad (lo_le h hk) hy
  rwa [ad_assoc, ng_ad, ad_zz] at this
theorem eqv_up {m : Int} {n j : Nat} {x y y' : T} (h : lo m j x) (k : eqv m n y y') : eqv m (j + n) (ml x y) (ml x y') := by
  have := lo_ml h k
  rwa [ml_ad, ml_ng] at this
theorem ic_neg (c : Int) : (ic (-c) : T) = ng (ic c) := by
  unfold ng; rw [← ic_ml]; congr 1; omega
theorem eqv_ic {m : Int} {n : Nat} {a b : Int} (h : a % m = b % m) : eqv m n (ic a : T) (ic b) := by
  unfold eqv; rw [← ic_neg, ← ic_ad]
  refine lo_ic ?_
  have h2 : (a - b) % m = 0 := by rw [Int.sub_emod, h]; simp
  exact Int.dvd_of_emod_eq_zero (by rw [← Int.sub_eq_add_neg]; exact h2)

def sm : Nat → (Nat → T) → T
  | 0, _ => zz
  | n + 1, f => ad (sm n f) (f n)
theorem sm_congr {n : Nat} {f g : Nat → T} (h : ∀ i, i < n → f i = g i) : sm n f = sm n g := by
  induction n with
  | zero => rfl
  | succ n ih => show ad _ _ = ad _ _; rw [ih fun i hi => h i (by omega), h n (by omega)]
theorem sm_zz (n : Nat) : sm n (fun _ => (zz : T)) = zz := by
  induction n with
  | zero => rfl
  | succ n ih => show ad _ _ = _; rw [ih, ad_zz]
theorem sm_none {n : Nat} {f : Nat → T} (h : ∀ i, i < n → f i = zz) : sm n f = zz := by rw [sm_congr h, sm_zz]
theorem sm_ad (n : Nat) (f g : Nat → T) : sm n (fun i => ad (f i) (g i)) = ad (sm n f) (sm n g) := by
  induction n with
  | zero => exact (ad_zz _).symm
  | succ n ih => show ad _ _ = ad (ad _ _) (ad _ _); rw [ih, ad_4]
theorem sm_ml (n : Nat) (f : Nat → T) (c : T) : ml c (sm n f) = sm n (fun i => ml c (f i)) := by
  induction n with
  | zero => exact ml_zz _
  | succ n ih => show ml c (ad _ _) = ad _ _; rw [ml_ad, ih]
theorem sm_mr (n : Nat) (f : Nat → T) (c : T) : ml (sm n f) c = sm n (fun i => ml (f i) c) := by
  rw [ml_comm, sm_ml]; exact sm_congr fun i _ => ml_comm _ _
theorem sm_first (n : Nat) (f : Nat → T) : sm (n + 1) f = ad (f 0) (sm n (fun i => f (i + 1))) := by
  induction n with
  | zero => show ad zz _ = ad _ zz; rw [zz_ad, ad_zz]
  | succ n ih => show ad (sm (n + 1) f) _ = ad _ (ad _ _); rw [ih, ad_assoc]
theorem sm_lo {m : Int} {k n : Nat} {f : Nat → T} (h : ∀ i, i < n → lo m k (f i)) : lo m k (sm n f) := by
  induction n with
  | zero => exact lo_zz _ _
  | succ n ih => exact lo_ad (ih fun i hi => h i (by omega)) (h n (by omega))
theorem sm_eqv {m : Int} {k n : Nat} {f g : Nat → T} (h : ∀ i, i < n → eqv m k (f i) (g i)) : eqv m k (sm n f) (sm n g) := by
  induction n with
  | zero => exact eqv_rfl
  | succ n ih => exact eqv_ad (ih fun i hi => h i (by omega)) (h n (by omega))
theorem sm_swap (n k : Nat) (f : Nat → Nat → T) : sm n (fun i => sm k (fun j => f i j)) = sm k (fun j => sm n (fun i => f i j)) := by
  induction n with
  | zero => exact (sm_zz k).symm
  | succ n ih => show ad _ _ = _; rw [ih, ← sm_ad]; rfl
theorem sm_split (n k : Nat) (f : Nat → T) : sm (n + k) f = ad (sm n f) (sm k (fun i => f (n + i))) := by
  induction k with
  | zero => exact (ad_zz _).symm
  | succ k ih => show ad (sm (n + k) f) (f (n + k)) = ad _ (ad _ (f (n + k))); rw [ih, ad_assoc]
theorem sm_tri (n : Nat) (h : Nat → Nat → T) : sm n (fun k => sm (k + 1) (fun i => h i (k - i))) = sm n (fun i => sm (n - i) (fun j => h i j)) := by
  induction n with
  | zero => rfl
  | succ n ih =>
    show ad (sm n _) (sm (n + 1) (fun i => h i (n - i))) = ad (sm n _) (sm (n + 1 - n) (fun j => h n j))
    rw [ih]
    have e1 : sm (n + 1 - n) (fun j => h n j) = h n 0 := by rw [show n + 1 - n = 1 by omega]; exact zz_ad _
    have e2 : sm (n + 1) (fun i => h i (n - i)) = ad (sm n (fun i => h i (n - i))) (h n 0) := by show ad _ (h n (n - n)) = _; rw [Nat.sub_self]
    rw [e1, e2, ← ad_assoc, ← sm_ad]
    congr 1
    exact sm_congr fun i hi => by rw [show n + 1 - i = (n - i) + 1 by omega]; rfl

def pw (a : T) : Nat → T
  | 0 => oo
  | k + 1 => ml (pw a k) a
theorem pw_ad (a : T) (j k : Nat) : ml (pw a j) (pw a k) = pw a (j + k) := by
  induction k with
  | zero => exact ml_oo _
  | succ k ih => show ml (pw a j) (ml (pw a k) a) = ml (pw a (j + k)) a; rw [← ml_assoc, ih]
theorem pw_lo {m : Int} {a : T} (h : lo m 1 a) (k : Nat) : lo m k (pw a k) := by
  induction k with
  | zero => exact lo_0 _ _
  | succ k ih => exact lo_ml ih h
theorem pw_eqv {m : Int} {n : Nat} {a b : T} (h : eqv m n a b) (k : Nat) : eqv m n (pw a k) (pw b k) := by
  induction k with
  | zero => exact eqv_rfl
  | succ k ih => exact eqv_ml ih h
theorem pw_ml (a b : T) (k : Nat) : pw (ml a b) k = ml (pw a k) (pw b k) := by
  induction k with
  | zero => exact (ml_oo _).symm
  | succ k ih => show ml (pw (ml a b) k) _ = ml (ml _ _) (ml _ _); rw [ih]; ac_rfl
end gen

instance : Rg Int where
  zz := 0
  oo := 1
  ad := (· + ·)
  ml := (· * ·)
  ic := id
  lo m k x := k = 0 ∨ m ∣ x
  ad_assoc := Int.add_assoc
  ad_comm := Int.add_comm
  ad_zz := Int.add_zero
  ml_assoc := Int.mul_assoc
  ml_comm := Int.mul_comm
  ml_oo := Int.mul_one
  ml_zz := Int.mul_zero
  ml_ad := Int.mul_add
  ic_0 := rfl
  ic_1 := rfl
  ic_ad _ _ := rfl
  ic_ml _ _ := rfl
  lo_0 _ _ := .inl rfl
  lo_le h hk := by
    rcases h with h | h
    · exact .inl (by omega)
    · exact .inr h
  lo_zz _ _ := .inr (Int.dvd_zero _)
  lo_ad h k := by
    rcases h with h | h
    · exact .inl h
    · rcases k with k | k
      · exact .inl k
      · exact .inr (Int.dvd_add h k)
  lo_ml h k := by
    rcases h with h | h
    · rcases k with k | k
      · exact .inl (by omega)
      · exact .inr (Int.dvd_mul_of_dvd_right k)
    · exact .inr (Int.dvd_mul_of_dvd_left h)
  lo_ic h := .inr h

section ser
variable {T : Type} [Rg T]
def cv (f g : Nat → T) (k : Nat) : T := sm (k + 1) (fun i => ml (f i) (g (k - i)))
def sh (f : Nat → T) : Nat → T := fun k => f (k + 1)
theorem cv_0 (f g : Nat → T) : cv f g 0 = ml (f 0) (g 0) := zz_ad _
theorem cv_succ (f g : Nat → T) (k : Nat) : cv f g (k + 1) = ad (ml (f 0) (g (k + 1))) (cv (sh f) g k) := by
  unfold cv
  rw [sm_first]
  congr 1
  exact sm_congr fun i hi => by unfold sh; rw [show k + 1 - (i + 1) = k - i by omega]
theorem cv_last (f g : Nat → T) (k : Nat) : cv f g (k + 1) = ad (cv f (sh g) k) (ml (f (k + 1)) (g 0)) := by
  unfold cv
  show ad (sm (k + 1) _) (ml (f (k + 1)) (g (k + 1 - (k + 1)))) = _
  rw [Nat.sub_self]
  congr 1
  exact sm_congr fun i hi => by unfold sh; rw [show k - i + 1 = k + 1 - i by omega]
theorem cv_ad (u v g : Nat → T) (k : Nat) : cv (fun i => ad (u i) (v i)) g k = ad (cv u g k) (cv v g k) := by
  unfold cv
  rw [← sm_ad]
  exact sm_congr fun i _ => ad_ml _ _ _
theorem cv_c (c : T) (u g : Nat → T) (k : Nat) : cv (fun i => ml c (u i)) g k = ml c (cv u g k) := by
  unfold cv
  rw [sm_ml]
  exact sm_congr fun i _ => ml_assoc _ _ _
theorem cv_comm (f g : Nat → T) (k : Nat) : cv f g k = cv g f k := by
  induction k generalizing f g with
  | zero => rw [cv_0, cv_0, ml_comm]
  | succ k ih => rw [cv_succ, cv_last, ih, ml_comm, ad_comm]
theorem sh_cv (f g : Nat → T) : sh (cv f g) = fun k => ad (ml (f 0) (sh g k)) (cv (sh f) g k) := by funext k; exact cv_succ f g k
theorem cv_assoc (f g h : Nat → T) (k : Nat) : cv (cv f g) h k = cv f (cv g h) k := by
  induction k generalizing f with
  | zero => rw [cv_0, cv_0, cv_0, cv_0, ml_assoc]
  | succ k ih =>
    rw [cv_succ, sh_cv, cv_ad, cv_c, ih, cv_succ f, cv_succ g, cv_0, ml_ad, ml_assoc]
    ac_rfl
theorem cv_oo (f : Nat → T) (k : Nat) : cv f (fun k => if k = 0 then oo else zz) k = f k := by
  unfold cv
  show ad (sm k _) (ml (f k) (if k - k = 0 then oo else zz)) = _
  rw [if_pos (Nat.sub_self k), ml_oo, sm_none fun i hi => by show ml _ (if k - i = 0 then (oo : T) else zz) = zz; rw [if_neg (by omega), ml_zz], zz_ad]
theorem cv_ic (a : T) (f : Nat → T) (k : Nat) : cv (fun k => if k = 0 then a else zz) f k = ml a (f k) := by
  unfold cv
  rw [sm_first, sm_none fun i hi => by show ml (if i + 1 = 0 then a else zz) _ = zz; rw [if_neg (by omega), zz_ml], ad_zz]
  rfl
instance ser : Rg (Nat → T) where
  zz := fun _ => zz
  oo := fun k => if k = 0 then oo else zz
  ad f g := fun k => ad (f k) (g k)
  ml f g := cv f g
  ic c := fun k => if k = 0 then ic c else zz
  lo m k f := ∀ i, lo m (k - i) (f i)
  ad_assoc a b c := funext fun k => ad_assoc _ _ _
  ad_comm a b := funext fun k => ad_comm _ _
  ad_zz a := funext fun k => ad_zz _
  ml_assoc a b c := funext fun k => cv_assoc _ _ _ _
  ml_comm a b := funext fun k => cv_comm _ _ _
  ml_oo a := funext fun k => cv_oo _ _
  ml_zz a := funext fun k => sm_none fun i _ => ml_zz _
  ml_ad a b c := funext fun k => by
    rw [cv_comm, cv_ad, cv_comm b, cv_comm c]
  ic_0 := funext fun k => by rw [ic_0, ite_self]
  ic_1 := funext fun k => by rw [ic_1]
  ic_ad a b := funext fun k => by
    by_cases h : k = 0
    · simp only [h, if_true]; exact ic_ad a b
    · simp only [h, if_false, ad_zz]
  ic_ml a b := funext fun k => by
    rw [cv_ic]
    by_cases h : k = 0
    · simp only [h, if_true]; exact ic_ml a b
    · simp only [h, if_false, ml_zz]
  lo_0 m x := fun i => by rw [Nat.zero_sub]; exact lo_0 _ _
  lo_le h hk := fun i => lo_le (h i) (by omega)
  lo_zz m k := fun i => lo_zz _ _
  lo_ad h k := fun i => lo_ad (h i) (k i)
  lo_ml {m j k x y} h h' := fun i => sm_lo fun l hl => lo_le (lo_ml (h l) (h' (i - l))) (by omega)
  lo_ic {m k c} h := fun i => by
    show lo m (k - i) (if i = 0 then (ic c : T) else zz)
    by_cases hi : i = 0
    · rw [if_pos hi]; exact lo_ic h
    · rw [if_neg hi]; exact lo_zz _ _
theorem ser_ad (f g : Nat → T) (k : Nat) : (ad f g : Nat → T) k = ad (f k) (g k) := rfl
theorem ser_ml (f g : Nat → T) (k : Nat) : (ml f g : Nat → T) k = cv f g k := rfl
theorem ser_ic (c : Int) (k : Nat) : (ic c : Nat → T) k = if k = 0 then ic c else zz := rfl
theorem ser_sm (n : Nat) (f : Nat → Nat → T) (k : Nat) : (sm n f : Nat → T) k = sm n (fun i => f i k) := by
  induction n with
  | zero => rfl
  | succ n ih => show ad _ _ = ad _ _; rw [ih]
theorem ser_icml (c : Int) (f : Nat → T) (k : Nat) : (ml (ic c) f : Nat → T) k = ml (ic c) (f k) := cv_ic _ _ _
theorem ser_ng (f : Nat → T) (k : Nat) : (ng f : Nat → T) k = ng (f k) := cv_ic _ _ _
theorem ser_eqv {m : Int} {n : Nat} {f g : Nat → T} (h : ∀ k, k < n → eqv m (n - k) (f k) (g k)) : eqv m n f g := fun i => by
  show lo m (n - i) (ad (f i) ((ng g : Nat → T) i))
  rw [ser_ng]
  by_cases hi : i < n
  · exact h i hi
  · rw [show n - i = 0 by omega]; exact lo_0 _ _
theorem eqv_ser {m : Int} {n : Nat} {f g : Nat → T} (h : eqv m n f g) (k : Nat) : eqv m (n - k) (f k) (g k) := by
  have := h k
  rw [show (ad f (ng g) : Nat → T) k = ad (f k) ((ng g : Nat → T) k) from rfl, ser_ng] at this
  exact this
end ser
theorem int_eqv {m : Int} {n : Nat} {a b : Int} : eqv m n a b ↔ n = 0 ∨ a % m = b % m := by
  show (n = 0 ∨ m ∣ a + (-1) * b) ↔ _
  have : m ∣ a + (-1) * b ↔ a % m = b % m := by
    rw [show a + (-1) * b = a - b by omega]
    constructor
    · intro h; exact Int.emod_eq_emod_iff_emod_sub_eq_zero.2 (Int.emod_eq_zero_of_dvd h)
    · intro h; exact Int.dvd_of_emod_eq_zero (Int.emod_eq_emod_iff_emod_sub_eq_zero.1 h)
  rw [this]

def ex {S T : Type} [Rg T] (n : Nat) (φ : S → T) (a : T) (f : Nat → S) : T := sm n (fun i => ml (φ (f i)) (pw a i))
section hom
variable {S T U : Type} [Rg S] [Rg T] [Rg U]
structure Hm (m : Int) (n : Nat) (φ : S → T) : Prop where
  ad : ∀ x y, φ (ad x y) = ad (φ x) (φ y)
  zz : φ zz = zz
  ic : ∀ c, eqv m n (φ (ic c)) (ic c)
  ml : ∀ x y, eqv m n (φ (ml x y)) (ml (φ x) (φ y))
  lo : ∀ k x, k ≤ n → lo m k x → lo m k (φ x)
theorem Hm.ng {m : Int} {n : Nat} {φ : S → T} (h : Hm m n φ) (x : S) : φ (ng x) = ng (φ x) := by
  have := h.ad x (Go.Proofs.YteijannfbafdpaaGreatDoor.ng x)
  rw [ad_ng, h.zz] at this
  have h2 : Rg.ad (φ x) (Go.Proofs.YteijannfbafdpaaGreatDoor.ng (φ x)) = Rg.ad (φ x) (φ (Go.Proofs.YteijannfbafdpaaGreatDoor.ng x)) := by rw [ad_ng, this]
  exact (ad_left h2).symm
theorem Hm.eqv {m : Int} {n k : Nat} {φ : S → T} (h : Hm m n φ) {x y : S} (hk : k ≤ n) (e : eqv m k x y) : eqv m k (φ x) (φ y) := by
  have := h.lo k _ hk e
  rw [h.ad, h.ng] at this
  exact this
theorem Hm.sm {m : Int} {n : Nat} {φ : S → T} (h : Hm m n φ) (N : Nat) (f : Nat → S) : φ (sm N f) = sm N (fun i => φ (f i)) := by
  induction N with
  | zero => exact h.zz
  | succ N ih => show φ (Rg.ad _ _) = Rg.ad _ _; rw [h.ad, ih]
theorem Hm.oo {m : Int} {n : Nat} {φ : S → T} (h : Hm m n φ) : Go.Proofs.YteijannfbafdpaaGreatDoor.eqv m n (φ oo) oo := by rw [← ic_1, ← ic_1]; exact h.ic 1
theorem Hm.pw {m : Int} {n : Nat} {φ : S → T} (h : Hm m n φ) (a : S) (k : Nat) : Go.Proofs.YteijannfbafdpaaGreatDoor.eqv m n (φ (pw a k)) (pw (φ a) k) := by
  induction k with
  | zero => exact h.oo
  | succ k ih => exact eqv_trans (h.ml _ _) (eqv_mlr _ ih)
theorem Hm.int (m : Int) (n : Nat) : Hm m n (Rg.ic : Int → T) where
  ad := ic_ad
  zz := ic_0
  ic c := eqv_rfl
  ml x y := eqv_of (ic_ml x y)
  lo k x hk h := by
    rcases h with h | h
    · subst h; exact lo_0 _ _
    · exact lo_ic h
theorem ex_lo {m : Int} {n : Nat} {φ : S → T} (h : Hm m n φ) {a : T} (ha : lo m 1 a) (k : Nat) (f : Nat → S) (hk : k ≤ n) (hf : lo m k f) : lo m k (ex n φ a f) :=
  sm_lo fun i hi => lo_le (lo_ml (h.lo (k - i) _ (by omega) (hf i)) (pw_lo ha i)) (by omega)
theorem Hm.ex {m : Int} {n : Nat} {φ : S → T} (h : Hm m n φ) {a : T} (ha : Rg.lo m 1 a) : Hm m n (ex n φ a) where
  ad x y := by
    unfold Go.Proofs.YteijannfbafdpaaGreatDoor.ex
    rw [← sm_ad]
    exact sm_congr fun i _ => by rw [ser_ad, h.ad, ad_ml]
  zz := sm_none fun i _ => by rw [show (Rg.zz : Nat → S) i = Rg.zz from rfl, h.zz, zz_ml]
  ic c := by
    cases n with
    | zero => exact lo_0 _ _
    | succ n =>
      unfold Go.Proofs.YteijannfbafdpaaGreatDoor.ex
      rw [sm_first, sm_none fun i _ => by rw [ser_ic, if_neg (by omega), h.zz, zz_ml], ad_zz, ser_ic, if_pos rfl]
      show Go.Proofs.YteijannfbafdpaaGreatDoor.eqv m _ (Rg.ml _ Rg.oo) _
      rw [ml_oo]
      exact h.ic c
  lo k x hk hx := ex_lo h ha k x hk hx
  ml x y := by
    unfold Go.Proofs.YteijannfbafdpaaGreatDoor.ex
    have e1 : Go.Proofs.YteijannfbafdpaaGreatDoor.eqv m n (Go.Proofs.YteijannfbafdpaaGreatDoor.sm n (fun i => Rg.ml (φ ((Rg.ml x y : Nat → S) i)) (Go.Proofs.YteijannfbafdpaaGreatDoor.pw a i)))
        (Go.Proofs.YteijannfbafdpaaGreatDoor.sm n (fun k => Go.Proofs.YteijannfbafdpaaGreatDoor.sm (k + 1) (fun i => Rg.ml (Rg.ml (φ (x i)) (φ (y (k - i)))) (Rg.ml (Go.Proofs.YteijannfbafdpaaGreatDoor.pw a i) (Go.Proofs.YteijannfbafdpaaGreatDoor.pw a (k - i)))))) := by
      refine sm_eqv fun k hk => ?_
      rw [ser_ml, cv, h.sm, sm_mr]
      refine sm_eqv fun i hi => ?_
      rw [pw_ad, show i + (k - i) = k by omega]
      exact eqv_mlr _ (h.ml _ _)
    refine eqv_trans e1 ?_
    rw [sm_tri n (fun i j => Rg.ml (Rg.ml (φ (x i)) (φ (y j))) (Rg.ml (Go.Proofs.YteijannfbafdpaaGreatDoor.pw a i) (Go.Proofs.YteijannfbafdpaaGreatDoor.pw a j))), sm_mr]
    refine sm_eqv fun i hi => ?_
    rw [sm_ml]
    rw [show n = (n - i) + i by omega, sm_split (n - i) i (fun j => Rg.ml (Rg.ml (φ (x i)) (Go.Proofs.YteijannfbafdpaaGreatDoor.pw a i)) (Rg.ml (φ (y j)) (Go.Proofs.YteijannfbafdpaaGreatDoor.pw a j))), show n - i + i - i = n - i by omega]
    refine eqv_trans (y := Rg.ad (Go.Proofs.YteijannfbafdpaaGreatDoor.sm (n - i) (fun j => Rg.ml (Rg.ml (φ (x i)) (φ (y j))) (Rg.ml (Go.Proofs.YteijannfbafdpaaGreatDoor.pw a i) (Go.Proofs.YteijannfbafdpaaGreatDoor.pw a j)))) Rg.zz) (eqv_of (ad_zz _).symm) (eqv_ad (eqv_of (sm_congr fun j _ => by ac_rfl)) (eqv_symm (eqv_lo (sm_lo fun j hj => ?_))))
    have := lo_mul (Rg.ml (φ (x i)) (φ (y (n - i + j)))) (lo_ml (pw_lo ha i) (pw_lo ha (n - i + j)))
    rw [show Rg.ml (Rg.ml (φ (x i)) (Go.Proofs.YteijannfbafdpaaGreatDoor.pw a i)) (Rg.ml (φ (y (n - i + j))) (Go.Proofs.YteijannfbafdpaaGreatDoor.pw a (n - i + j))) = Rg.ml (Rg.ml (φ (x i)) (φ (y (n - i + j)))) (Rg.ml (Go.Proofs.YteijannfbafdpaaGreatDoor.pw a i) (Go.Proofs.YteijannfbafdpaaGreatDoor.pw a (n - i + j))) by ac_rfl]
    exact lo_le this (by omega)
end hom
theorem Hm.of_ex {S T U : Type} [Rg T] [Rg U] {m : Int} {n : Nat} {φ : T → U} (h : Hm m n φ) {χ : S → T} {ψ : S → U} (hc : ∀ x, Go.Proofs.YteijannfbafdpaaGreatDoor.eqv m n (φ (χ x)) (ψ x)) (a : T) (f : Nat → S) : Go.Proofs.YteijannfbafdpaaGreatDoor.eqv m n (φ (Go.Proofs.YteijannfbafdpaaGreatDoor.ex n χ a f)) (Go.Proofs.YteijannfbafdpaaGreatDoor.ex n ψ (φ a) f) := by
  unfold Go.Proofs.YteijannfbafdpaaGreatDoor.ex
  rw [h.sm]
  exact sm_eqv fun i _ => eqv_trans (h.ml _ _) (eqv_ml (hc _) (h.pw a i))
end Go.Proofs.YteijannfbafdpaaGreatDoor

/- Series with two variables at elements of a ring; laws. No program stands here. -/
set_option linter.unusedSimpArgs false
set_option linter.unusedVariables false
namespace Go.Proofs.YteijannfbafdpaaGreatDoor
open Rg

theorem eqv1 {m : Int} {n : Nat} {f g : Nat → Int} : eqv m n f g ↔ ∀ k, k < n → f k % m = g k % m := by
  constructor
  · intro h k hk
    rcases int_eqv.1 (eqv_ser h k) with e | e
    · omega
    · exact e
  · intro h
    exact ser_eqv fun k hk => int_eqv.2 (.inr (h k hk))
theorem eqv2 {m : Int} {n : Nat} {f g : Nat → Nat → Int} : eqv m n f g ↔ ∀ i j, i + j < n → f i j % m = g i j % m := by
  constructor
  · intro h i j hk
    exact eqv1.1 (eqv_ser h i) j (by omega)
  · intro h
    exact ser_eqv fun i hi => eqv1.2 fun j hj => h i j (by omega)

section gen
variable {T : Type} [Rg T]
def ev1 (n : Nat) (f : Nat → Int) (a : T) : T := ex n Rg.ic a f
def ev2 (n : Nat) (F : Nat → Nat → Int) (a b : T) : T := ex n (ex n Rg.ic b) a F
theorem hm1 {m : Int} {n : Nat} {a : T} (ha : lo m 1 a) : Hm m n (fun f => ev1 n f a) := (Hm.int m n).ex ha
theorem hm2 {m : Int} {n : Nat} {a b : T} (ha : lo m 1 a) (hb : lo m 1 b) : Hm m n (fun F => ev2 n F a b) := ((Hm.int m n).ex hb).ex ha
theorem ic_sm (n : Nat) (f : Nat → Int) : (ic (sm n f) : T) = sm n (fun i => ic (f i)) := (Hm.int 0 0).sm n f
theorem ev2_sum (n : Nat) (F : Nat → Nat → Int) (a b : T) : ev2 n F a b = sm n (fun i => sm n (fun j => ml (ic (F i j)) (ml (pw a i) (pw b j)))) := by
  unfold ev2 ex
  refine sm_congr fun i _ => ?_
  rw [sm_mr]
  exact sm_congr fun j _ => by ac_rfl
theorem ev2_lo {m : Int} {n k : Nat} (F : Nat → Nat → Int) {a b : T} (h0 : F 0 0 = 0) (hk : k ≤ 1) (ha : lo m k a) (hb : lo m k b) : lo m k (ev2 n F a b) := by
  rw [ev2_sum]
  refine sm_lo fun i _ => sm_lo fun j _ => ?_
  by_cases h : i = 0 ∧ j = 0
  · rw [h.1, h.2, h0, ic_0, zz_ml]; exact lo_zz _ _
  · refine lo_mul _ ?_
    obtain rfl | rfl : k = 0 ∨ k = 1 := by omega
    · exact lo_0 _ _
    · exact lo_le (lo_ml (pw_lo ha i) (pw_lo hb j)) (by omega)
theorem ev2_eqv {m : Int} {n k : Nat} {F G : Nat → Nat → Int} {a b a' b' : T} (ha : lo m 1 a) (hb : lo m 1 b) (hk : k ≤ n) (hF : ∀ i j, i + j < k → F i j % m = G i j % m) (ea : eqv m k a a') (eb : eqv m k b b') : eqv m k (ev2 n F a b) (ev2 n G a' b') := by
  rw [ev2_sum, ev2_sum]
  refine sm_eqv fun i _ => sm_eqv fun j _ => ?_
  have e := eqv_ml (pw_eqv ea i) (pw_eqv eb j)
  by_cases h : i + j < k
  · exact eqv_ml (eqv_ic (hF i j h)) e
  · have hl : lo m k (ml (pw a i) (pw b j)) := lo_le (lo_ml (pw_lo ha i) (pw_lo hb j)) (by omega)
    have hl' : lo m k (ml (pw a' i) (pw b' j)) := lo_eqv (eqv_symm e) (Nat.le_refl _) hl
    exact eqv_trans (eqv_lo (lo_mul _ hl)) (eqv_symm (eqv_lo (lo_mul _ hl')))
theorem pw_zz (k : Nat) : pw (zz : T) (k + 1) = zz := ml_zz _
theorem pw_1 (a : T) : pw a 1 = a := oo_ml _

structure Lw (m : Int) (n : Nat) (F : Nat → Nat → Int) : Prop where
  two : 2 ≤ n
  zer : F 0 0 = 0
  un : ∀ i, i < n → F i 0 % m = (if i = 1 then 1 else 0) % m
  sy : ∀ i j, i + j < n → F i j % m = F j i % m
  as : ∀ p q k, p + q + k < n → sm n (fun i => F i k * (pw F i : Nat → Nat → Int) p q) % m = sm n (fun j => F p j * (pw F j : Nat → Nat → Int) q k) % m
theorem ev2_comm {m : Int} {n : Nat} {F : Nat → Nat → Int} (L : Lw m n F) {a b : T} (ha : lo m 1 a) (hb : lo m 1 b) : eqv m n (ev2 n F a b) (ev2 n F b a) := by
  rw [ev2_sum, ev2_sum, sm_swap]
  refine sm_eqv fun i _ => sm_eqv fun j _ => ?_
  rw [ml_comm (pw a j)]
  by_cases h : i + j < n
  · exact eqv_mlr _ (eqv_ic (L.sy j i (by omega)))
  · have hl : lo m n (ml (pw b i) (pw a j)) := lo_le (lo_ml (pw_lo hb i) (pw_lo ha j)) (by omega)
    exact eqv_trans (eqv_lo (lo_mul _ hl)) (eqv_symm (eqv_lo (lo_mul _ hl)))
theorem sum_one {n : Nat} (h : 2 ≤ n) (f : Nat → T) : sm n (fun i => ml (ic (if i = 1 then 1 else 0)) (f i)) = f 1 := by
  obtain ⟨k, rfl⟩ : ∃ k, n = k + 1 + 1 := ⟨n - 2, by omega⟩
  rw [sm_first, sm_first, sm_none (n := k) fun i _ => by rw [if_neg (by omega), ic_0, zz_ml]]
  rw [if_neg (by omega), if_pos rfl, ic_0, ic_1, zz_ml, oo_ml, ad_zz, zz_ad]
theorem ev2_zz {m : Int} {n : Nat} {F : Nat → Nat → Int} (L : Lw m n F) (a : T) : eqv m n (ev2 n F a zz) a := by
  have h2 := L.two
  rw [ev2_sum]
  refine eqv_trans (y := sm n (fun i => ml (ic (if i = 1 then 1 else 0)) (pw a i))) (sm_eqv fun i hi => ?_) (eqv_of (by rw [sum_one h2, pw_1]))
  obtain ⟨k, rfl⟩ : ∃ k, n = k + 1 := ⟨n - 1, by omega⟩
  rw [sm_first, sm_none (n := k) fun j _ => by rw [pw_zz, ml_zz, ml_zz], ad_zz]
  show eqv m _ (ml _ (ml _ oo)) _
  rw [ml_oo]
  exact eqv_mlr _ (eqv_ic (L.un i hi))
theorem ev2_late {m : Int} {n j k : Nat} {F : Nat → Nat → Int} (L : Lw m n F) {a b e : T} (ha : lo m 1 a) (hb : lo m 1 b) (he : lo m j e) (hj : 1 ≤ j) (hk : k ≤ n) (hk' : k ≤ j + 1) : eqv m k (ev2 n F a (ad b e)) (ad (ev2 n F a b) e) := by
  have h2 := L.two
  have hp : ∀ q, eqv m (j + 1) (pw (ad b e) (q + 2)) (pw b (q + 2)) := by
    intro q
    induction q with
    | zero =>
      show eqv m _ (ml (ml oo (ad b e)) (ad b e)) (ml (ml oo b) b)
      rw [oo_ml, oo_ml, ad_ml, ml_ad, ml_ad]
      refine eqv_trans (y := ad (ad (ml b b) zz) zz) (eqv_ad (eqv_ad eqv_rfl (eqv_lo ?_)) (eqv_lo ?_)) (eqv_of (by rw [ad_zz, ad_zz]))
      · exact lo_le (lo_ml hb he) (by omega)
      · exact lo_ad (lo_le (lo_ml he hb) (by omega)) (lo_le (lo_ml he he) (by omega))
    | succ q ih =>
      show eqv m _ (ml (pw (ad b e) (q + 2)) (ad b e)) (ml (pw b (q + 2)) b)
      rw [ml_ad]
      refine eqv_trans (eqv_ad (eqv_mlr b ih) (eqv_lo (lo_le (lo_ml (pw_lo (lo_ad hb (lo_le he hj)) (q + 2)) he) (by omega)))) (eqv_of (ad_zz _))
  rw [ev2_sum, ev2_sum]
  obtain ⟨N, rfl⟩ : ∃ N, n = N + 1 + 1 := ⟨n - 2, by omega⟩
  rw [sm_first, sm_first (N + 1) (fun i => sm (N + 1 + 1) fun j => ml (ic (F i j)) (ml (pw a i) (pw b j)))]
  rw [show ∀ x y z : T, ad (ad x y) z = ad (ad x z) y from fun x y z => by ac_rfl]
  refine eqv_ad ?_ ?_
  · rw [sm_first, sm_first (N + 1) (fun j => ml (ic (F 0 j)) (ml (pw a 0) (pw b j))), sm_first, sm_first N]
    show eqv m k (ad _ (ad (ml (ic (F 0 1)) (ml oo (ml oo (ad b e)))) _)) (ad (ad _ (ad (ml (ic (F 0 1)) (ml oo (ml oo b))) _)) e)
    simp only [oo_ml]
    have e1 : eqv m k (ml (ic (F 0 1)) (ad b e)) (ad (ml (ic (F 0 1)) b) e) := by
      rw [ml_ad]
      refine eqv_ad eqv_rfl (eqv_trans (eqv_mlr e (eqv_ic (b := 1) ?_)) (eqv_of (by rw [ic_1, oo_ml])))
      rw [L.sy 0 1 (by omega), L.un 1 (by omega), if_pos rfl]
    refine eqv_trans (eqv_ad (eqv_of rfl) (eqv_ad e1 (sm_eqv (g := fun i => ml (ic (F 0 (i + 1 + 1))) (ml (pw a 0) (pw b (i + 1 + 1)))) fun i _ => eqv_mll _ (eqv_mll _ (eqv_le (hp i) hk'))))) (eqv_of ?_)
    show ad (ml (ic (F 0 0)) (ml (pw a 0) oo)) _ = ad (ad (ml (ic (F 0 0)) (ml (pw a 0) oo)) _) e
    ac_rfl
  · refine sm_eqv fun i _ => sm_eqv fun q _ => eqv_mll _ ?_
    obtain rfl | ⟨q, rfl⟩ : q = 0 ∨ ∃ q', q = q' + 1 := by cases q with
      | zero => exact .inl rfl
      | succ q => exact .inr ⟨q, rfl⟩
    · exact eqv_rfl
    · have : eqv m j (pw (ad b e) (q + 1)) (pw b (q + 1)) := pw_eqv (eqv_trans (eqv_ad eqv_rfl (eqv_lo he)) (eqv_of (ad_zz _))) _
      exact eqv_le (eqv_up (pw_lo ha (i + 1)) this) (by omega)
theorem three_sum (n : Nat) (F : Nat → Nat → Int) (G : Nat → Nat → Nat → Int) (a b c : T) :
    sm n (fun i => ml (sm n (fun k => ml (ic (F i k)) (pw c k))) (ev2 n (G i) a b)) = sm n (fun p => sm n (fun q => sm n (fun k => ml (ic (sm n (fun i => F i k * G i p q))) (ml (pw a p) (ml (pw b q) (pw c k)))))) := by
  have e : ∀ i, ml (sm n (fun k => ml (ic (F i k)) (pw c k))) (ev2 n (G i) a b) = sm n (fun p => sm n (fun q => sm n (fun k => ml (ic (F i k * G i p q)) (ml (pw a p) (ml (pw b q) (pw c k)))))) := by
    intro i
    rw [ev2_sum, sm_ml]
    refine sm_congr fun p _ => ?_
    rw [sm_ml]
    refine sm_congr fun q _ => ?_
    rw [sm_mr]
    refine sm_congr fun k _ => ?_
    rw [ic_ml]; ac_rfl
  rw [sm_congr fun i _ => e i, sm_swap]
  refine sm_congr fun p _ => ?_
  rw [sm_swap]
  refine sm_congr fun q _ => ?_
  rw [sm_swap]
  refine sm_congr fun k _ => ?_
  rw [ic_sm, sm_mr]
theorem three_sum' (n : Nat) (F : Nat → Nat → Int) (G : Nat → Nat → Nat → Int) (a b c : T) :
    sm n (fun p => ml (sm n (fun j => ml (ic (F p j)) (ev2 n (G j) b c))) (pw a p)) = sm n (fun p => sm n (fun q => sm n (fun k => ml (ic (sm n (fun j => F p j * G j q k))) (ml (pw a p) (ml (pw b q) (pw c k)))))) := by
  refine sm_congr fun p _ => ?_
  have e : ∀ j, ml (ml (ic (F p j)) (ev2 n (G j) b c)) (pw a p) = sm n (fun q => sm n (fun k => ml (ic (F p j * G j q k)) (ml (pw a p) (ml (pw b q) (pw c k))))) := by
    intro j
    rw [ev2_sum, sm_ml, sm_mr]
    refine sm_congr fun q _ => ?_
    rw [sm_ml, sm_mr]
    refine sm_congr fun k _ => ?_
    rw [ic_ml]; ac_rfl
  rw [sm_mr, sm_congr fun j _ => e j, sm_swap]
  refine sm_congr fun q _ => ?_
  rw [sm_swap]
  refine sm_congr fun k _ => ?_
  rw [ic_sm, sm_mr]
theorem ev2_assoc {m : Int} {n : Nat} {F : Nat → Nat → Int} (L : Lw m n F) {a b c : T} (ha : lo m 1 a) (hb : lo m 1 b) (hc : lo m 1 c) :
    eqv m n (ev2 n F (ev2 n F a b) c) (ev2 n F a (ev2 n F b c)) := by
  have e1 : eqv m n (ev2 n F (ev2 n F a b) c) (sm n (fun i => ml (sm n (fun k => ml (ic (F i k)) (pw c k))) (ev2 n (pw F i) a b))) :=
    sm_eqv fun i _ => eqv_mll _ (eqv_symm ((hm2 ha hb).pw F i))
  have e2 : eqv m n (ev2 n F a (ev2 n F b c)) (sm n (fun p => ml (sm n (fun j => ml (ic (F p j)) (ev2 n (pw F j) b c))) (pw a p))) :=
    sm_eqv fun p _ => eqv_mlr _ (sm_eqv fun j _ => eqv_mll _ (eqv_symm ((hm2 hb hc).pw F j)))
  refine eqv_trans e1 (eqv_trans ?_ (eqv_symm e2))
  rw [three_sum n F (fun i => pw F i), three_sum' n F (fun i => pw F i)]
  refine sm_eqv fun p _ => sm_eqv fun q _ => sm_eqv fun k _ => ?_
  by_cases h : p + q + k < n
  · exact eqv_mlr _ (eqv_ic (L.as p q k h))
  · have hl : lo m n (ml (pw a p) (ml (pw b q) (pw c k))) := lo_le (lo_ml (pw_lo ha p) (lo_ml (pw_lo hb q) (pw_lo hc k))) (by omega)
    exact eqv_trans (eqv_lo (lo_mul _ hl)) (eqv_symm (eqv_lo (lo_mul _ hl)))
end gen
end Go.Proofs.YteijannfbafdpaaGreatDoor
