/- Lemmas. -/
import Derived.Test.YtfpphfjlpgefaaaGreatqA

set_option linter.unusedSimpArgs false
set_option linter.unusedVariables false
namespace Go.Proofs.YtfpphfjlpgefaaaGreat
section

class Rg (T : Type) where
 zz : T
 oo : T
 ad : T → T → T
 ml : T → T → T
 ic : Int → T
 lo : Int → Nat → T → Prop
 ad_assoc : ∀ a b c : T, ad (ad a b) c = ad a (ad b c)
 ad_comm : ∀ a b : T, ad a b = ad b a
 ad_zz : ∀ a : T, ad a zz = a
 ml_assoc : ∀ a b c : T, ml (ml a b) c = ml a (ml b c)
 ml_comm : ∀ a b : T, ml a b = ml b a
 ml_oo : ∀ a : T, ml a oo = a
 ml_zz : ∀ a : T, ml a zz = zz
 ml_ad : ∀ a b c : T, ml a (ad b c) = ad (ml a b) (ml a c)
 ic_0 : ic 0 = zz
 ic_1 : ic 1 = oo
 ic_ad : ∀ a b : Int, ic (a + b) = ad (ic a) (ic b)
 ic_ml : ∀ a b : Int, ic (a * b) = ml (ic a) (ic b)
 lo_0 : ∀ m (x : T), lo m 0 x
 lo_le : ∀ {m : Int} {j k : Nat} {x : T}, lo m k x → j ≤ k → lo m j x
 lo_zz : ∀ m k, lo m k zz
 lo_ad : ∀ {m : Int} {k : Nat} {x y : T}, lo m k x → lo m k y → lo m k (ad x y)
 lo_ml : ∀ {m : Int} {j k : Nat} {x y : T}, lo m j x → lo m k y → lo m (j + k) (ml x y)
 lo_ic : ∀ {m : Int} {k : Nat} {c : Int}, m ∣ c → lo m k (ic c)
open Rg

instance {T : Type} [Rg T] : Std.Associative (ad : T → T → T) := ⟨ad_assoc⟩
instance {T : Type} [Rg T] : Std.Commutative (ad : T → T → T) := ⟨ad_comm⟩
instance {T : Type} [Rg T] : Std.Associative (ml : T → T → T) := ⟨ml_assoc⟩
instance {T : Type} [Rg T] : Std.Commutative (ml : T → T → T) := ⟨ml_comm⟩

section gen
variable {T : Type} [Rg T]
theorem qBR (a : T) : ad zz a = a := by rw [ad_comm, ad_zz]
theorem qBi (a : T) : ml zz a = zz := by rw [ml_comm, ml_zz]
theorem qC5 (a : T) : ml oo a = a := by rw [ml_comm, ml_oo]
theorem qEv (a b c : T) : ml (ad a b) c = ad (ml a c) (ml b c) := by rw [ml_comm, ml_ad, ml_comm c a, ml_comm c b]
def ng (a : T) : T := ml (ic (-1)) a
theorem qEN (a : T) : ad a (ng a) = zz := by
 have h : ad (ml (ic 1) a) (ml (ic (-1)) a) = zz := by rw [← qEv, ← ic_ad, show (1 + -1 : Int) = 0 from rfl, ic_0, qBi]
 rwa [ic_1, qC5] at h
theorem qFt (a : T) : ad (ng a) a = zz := by rw [ad_comm, qEN]
theorem ng_zz : ng (zz : T) = zz := ml_zz _
theorem ng_ng (a : T) : ng (ng a) = a := by
 show ml (ic (-1)) (ml (ic (-1)) a) = a
 rw [← ml_assoc, ← ic_ml, show (-1 * -1 : Int) = 1 from rfl, ic_1, qC5]
theorem qKk (a b : T) : ng (ad a b) = ad (ng a) (ng b) := ml_ad _ _ _
theorem ng_ml (a b : T) : ml (ng a) b = ng (ml a b) := ml_assoc _ _ _
theorem qFb (a b : T) : ml a (ng b) = ng (ml a b) := by rw [ml_comm, ng_ml, ml_comm]
theorem lo_ng {m : Int} {k : Nat} {x : T} (h : lo m k x) : lo m k (ng x) := by
 have := lo_ml (lo_0 m (ic (-1) : T)) h
 rwa [Nat.zero_add] at this
theorem qBC {m : Int} {k : Nat} {x : T} (a : T) (h : lo m k x) : lo m k (ml a x) := by
 have := lo_ml (lo_0 m a) h
 rwa [Nat.zero_add] at this
theorem qQ3 {a b c : T} (h : ad a b = ad a c) : b = c := by
 have : ad (ng a) (ad a b) = ad (ng a) (ad a c) := by rw [h]
 rwa [← ad_assoc, ← ad_assoc, qFt, qBR, qBR] at this
theorem ad_4 (a b c d : T) : ad (ad a b) (ad c d) = ad (ad a c) (ad b d) := by ac_rfl

def eqv (m : Int) (n : Nat) (x y : T) : Prop := lo m n (ad x (ng y))
theorem qAY {m : Int} {n : Nat} {x : T} : eqv m n x x := by unfold eqv; rw [qEN]; exact lo_zz _ _
theorem qAf {m : Int} {n : Nat} {x y : T} (h : x = y) : eqv m n x y := h ▸ qAY
theorem qAQ {m : Int} {n : Nat} {x y : T} (h : eqv m n x y) : eqv m n y x := by
 have := lo_ng h
 rw [qKk, ng_ng, ad_comm] at this
 exact this
theorem qA2 {m : Int} {n : Nat} {x y z : T} (h : eqv m n x y) (k : eqv m n y z) : eqv m n x z := by
 have := lo_ad h k
 rw [show ad (ad x (ng y)) (ad y (ng z)) = ad (ad (ng y) y) (ad x (ng z)) by ac_rfl, qFt, qBR] at this
 exact this
theorem qBe {m : Int} {n k : Nat} {x y : T} (h : eqv m n x y) (hk : k ≤ n) : eqv m k x y := lo_le h hk
theorem qAM {m : Int} {n : Nat} {x y x' y' : T} (h : eqv m n x x') (k : eqv m n y y') : eqv m n (ad x y) (ad x' y') := by
 have := lo_ad h k
 unfold eqv
 rw [qKk, ad_4]
 exact this
theorem qBh {m : Int} {n : Nat} {y y' : T} (x : T) (k : eqv m n y y') : eqv m n (ml x y) (ml x y') := by
 have := qBC x k
 rwa [ml_ad, qFb] at this
theorem qBj {m : Int} {n : Nat} {y y' : T} (x : T) (k : eqv m n y y') : eqv m n (ml y x) (ml y' x) := by
 rw [ml_comm y, ml_comm y']; exact qBh x k
theorem qFA {m : Int} {n : Nat} {x y x' y' : T} (h : eqv m n x x') (k : eqv m n y y') : eqv m n (ml x y) (ml x' y') :=
 qA2 (qBj _ h) (qBh _ k)
theorem qAo {m : Int} {n : Nat} {x : T} (h : lo m n x) : eqv m n x zz := by unfold eqv; rw [ng_zz, ad_zz]; exact h
theorem lo_eqv {m : Int} {n k : Nat} {x y : T} (h : eqv m n x y) (hk : k ≤ n) (hy : lo m k y) : lo m k x := by
 have := lo_ad (lo_le h hk) hy
 rwa [ad_assoc, qFt, ad_zz] at this
theorem qF_ {m : Int} {n j : Nat} {x y y' : T} (h : lo m j x) (k : eqv m n y y') : eqv m (j + n) (ml x y) (ml x y') := by
 have := lo_ml h k
 rwa [ml_ad, qFb] at this
theorem ic_neg (c : Int) : (ic (-c) : T) = ng (ic c) := by
 unfold ng; rw [← ic_ml]; congr 1; omega
theorem qDp {m : Int} {n : Nat} {a b : Int} (h : a % m = b % m) : eqv m n (ic a : T) (ic b) := by
 unfold eqv; rw [← ic_neg, ← ic_ad]
 refine lo_ic ?_
 have h2 : (a - b) % m = 0 := by rw [Int.sub_emod, h]; simp
 exact Int.dvd_of_emod_eq_zero (by rw [← Int.sub_eq_add_neg]; exact h2)

def sm : Nat → (Nat → T) → T
 | 0, _ => zz
 | n + 1, f => ad (sm n f) (f n)
theorem qAC {n : Nat} {f g : Nat → T} (h : ∀ i, i < n → f i = g i) : sm n f = sm n g := by
 induction n with
 | zero => rfl
 | succ n ih => show ad _ _ = ad _ _; rw [ih fun i hi => h i Oo, h n Oo]
theorem sm_zz (n : Nat) : sm n (fun _ => (zz : T)) = zz := by
 induction n with
 | zero => rfl
 | succ n ih => show ad _ _ = _; rw [ih, ad_zz]
theorem qBI {n : Nat} {f : Nat → T} (h : ∀ i, i < n → f i = zz) : sm n f = zz := by rw [qAC h, sm_zz]
theorem qDO (n : Nat) (f g : Nat → T) : sm n (fun i => ad (f i) (g i)) = ad (sm n f) (sm n g) := by
 induction n with
 | zero => exact (ad_zz _).symm
 | succ n ih => show ad _ _ = ad (ad _ _) (ad _ _); rw [ih, ad_4]
theorem qCk (n : Nat) (f : Nat → T) (c : T) : ml c (sm n f) = sm n (fun i => ml c (f i)) := by
 induction n with
 | zero => exact ml_zz _
 | succ n ih => show ml c (ad _ _) = ad _ _; rw [ml_ad, ih]
theorem qCH (n : Nat) (f : Nat → T) (c : T) : ml (sm n f) c = sm n (fun i => ml (f i) c) := by
 rw [ml_comm, qCk]; exact qAC fun i _ => ml_comm _ _
theorem qAn (n : Nat) (f : Nat → T) : sm (n + 1) f = ad (f 0) (sm n (fun i => f (i + 1))) := by
 induction n with
 | zero => show ad zz _ = ad _ zz; rw [qBR, ad_zz]
 | succ n ih => show ad (sm (n + 1) f) _ = ad _ (ad _ _); rw [ih, ad_assoc]
theorem qCD {m : Int} {k n : Nat} {f : Nat → T} (h : ∀ i, i < n → lo m k (f i)) : lo m k (sm n f) := by
 induction n with
 | zero => exact lo_zz _ _
 | succ n ih => exact lo_ad (ih fun i hi => h i Oo) (h n Oo)
theorem qAm {m : Int} {k n : Nat} {f g : Nat → T} (h : ∀ i, i < n → eqv m k (f i) (g i)) : eqv m k (sm n f) (sm n g) := by
 induction n with
 | zero => exact qAY
 | succ n ih => exact qAM (ih fun i hi => h i Oo) (h n Oo)
theorem qEB (n k : Nat) (f : Nat → Nat → T) : sm n (fun i => sm k (fun j => f i j)) = sm k (fun j => sm n (fun i => f i j)) := by
 induction n with
 | zero => exact (sm_zz k).symm
 | succ n ih => show ad _ _ = _; rw [ih, ← qDO]; rfl
theorem qG0 (n k : Nat) (f : Nat → T) : sm (n + k) f = ad (sm n f) (sm k (fun i => f (n + i))) := by
 induction k with
 | zero => exact (ad_zz _).symm
 | succ k ih => show ad (sm (n + k) f) (f (n + k)) = ad _ (ad _ (f (n + k))); rw [ih, ad_assoc]
theorem qKc (n : Nat) (h : Nat → Nat → T) : sm n (fun k => sm (k + 1) (fun i => h i (k - i))) = sm n (fun i => sm (n - i) (fun j => h i j)) := by
 induction n with
 | zero => rfl
 | succ n ih =>
   show ad (sm n _) (sm (n + 1) (fun i => h i (n - i))) = ad (sm n _) (sm (n + 1 - n) (fun j => h n j))
   rw [ih]; have e1 : sm (n + 1 - n) (fun j => h n j) = h n 0 := by rw [show n + 1 - n = 1 by omega]; exact qBR _
   have e2 : sm (n + 1) (fun i => h i (n - i)) = ad (sm n (fun i => h i (n - i))) (h n 0) := by show ad _ (h n (n - n)) = _; rw [Nat.sub_self]
   rw [e1, e2, ← ad_assoc, ← qDO]
   congr 1
   exact qAC fun i hi => by rw [show n + 1 - i = (n - i) + 1 by omega]; rfl

def pw (a : T) : Nat → T
 | 0 => oo
 | k + 1 => ml (pw a k) a
theorem pw_ad (a : T) (j k : Nat) : ml (pw a j) (pw a k) = pw a (j + k) := by
 induction k with
 | zero => exact ml_oo _
 | succ k ih => show ml (pw a j) (ml (pw a k) a) = ml (pw a (j + k)) a; rw [← ml_assoc, ih]
theorem qAu {m : Int} {a : T} (h : lo m 1 a) (k : Nat) : lo m k (pw a k) := by
 induction k with
 | zero => exact lo_0 _ _
 | succ k ih => exact lo_ml ih h
theorem qDH {m : Int} {n : Nat} {a b : T} (h : eqv m n a b) (k : Nat) : eqv m n (pw a k) (pw b k) := by
 induction k with
 | zero => exact qAY
 | succ k ih => exact qFA ih h
theorem qHC (a b : T) (k : Nat) : pw (ml a b) k = ml (pw a k) (pw b k) := by
 induction k with
 | zero => exact (ml_oo _).symm
 | succ k ih => show ml (pw (ml a b) k) _ = ml (ml _ _) (ml _ _); rw [ih]; ac_rfl
end gen

instance : Rg Int where
 zz := 0
 oo := 1
 ad := (· + ·)
 ml := (· * ·)
 ic := id
 lo m k x := k = 0 ∨ m ∣ x
 ad_assoc := Int.add_assoc
 ad_comm := Int.add_comm
 ad_zz := Int.add_zero
 ml_assoc := Int.mul_assoc
 ml_comm := Int.mul_comm
 ml_oo := Int.mul_one
 ml_zz := Int.mul_zero
 ml_ad := Int.mul_add
 ic_0 := rfl
 ic_1 := rfl
 ic_ad _ _ := rfl
 ic_ml _ _ := rfl
 lo_0 _ _ := .inl rfl
 lo_le h hk := by
  rcases h with h | h
  ·exact .inl Oo
  ·exact .inr h
 lo_zz _ _ := .inr (Int.dvd_zero _)
 lo_ad h k := by
  rcases h with h | h
  ·exact .inl h
  ·rcases k with k | k
   ·exact .inl k
   ·exact .inr (Int.dvd_add h k)
 lo_ml h k := by
  rcases h with h | h
  ·rcases k with k | k
   ·exact .inl Oo
   ·exact .inr (Int.dvd_mul_of_dvd_right k)
  ·exact .inr (Int.dvd_mul_of_dvd_left h)
 lo_ic h := .inr h

section ser
variable {T : Type} [Rg T]
def cv (f g : Nat → T) (k : Nat) : T := sm (k + 1) (fun i => ml (f i) (g (k - i)))
def sh (f : Nat → T) : Nat → T := fun k => f (k + 1)
theorem qE2 (f g : Nat → T) : cv f g 0 = ml (f 0) (g 0) := qBR _
theorem qFQ (f g : Nat → T) (k : Nat) : cv f g (k + 1) = ad (ml (f 0) (g (k + 1))) (cv (sh f) g k) := by
 unfold cv
 rw [qAn]
 congr 1
 exact qAC fun i hi => by unfold sh; rw [show k + 1 - (i + 1) = k - i by omega]
theorem qLo (f g : Nat → T) (k : Nat) : cv f g (k + 1) = ad (cv f (sh g) k) (ml (f (k + 1)) (g 0)) := by
 unfold cv
 show ad (sm (k + 1) _) (ml (f (k + 1)) (g (k + 1 - (k + 1)))) = _
 rw [Nat.sub_self]
 congr 1
 exact qAC fun i hi => by unfold sh; rw [show k - i + 1 = k + 1 - i by omega]
theorem cv_ad (u v g : Nat → T) (k : Nat) : cv (fun i => ad (u i) (v i)) g k = ad (cv u g k) (cv v g k) := by
 unfold cv
 rw [← qDO]
 exact qAC fun i _ => qEv _ _ _
theorem cv_c (c : T) (u g : Nat → T) (k : Nat) : cv (fun i => ml c (u i)) g k = ml c (cv u g k) := by
 unfold cv
 rw [qCk]
 exact qAC fun i _ => ml_assoc _ _ _
theorem qGN (f g : Nat → T) (k : Nat) : cv f g k = cv g f k := by
 induction k generalizing f g with
 | zero => rw [qE2, qE2, ml_comm]
 | succ k ih => rw [qFQ, qLo, ih, ml_comm, ad_comm]
theorem sh_cv (f g : Nat → T) : sh (cv f g) = fun k => ad (ml (f 0) (sh g k)) (cv (sh f) g k) := by funext k; exact qFQ f g k
theorem qMn (f g h : Nat → T) (k : Nat) : cv (cv f g) h k = cv f (cv g h) k := by
 induction k generalizing f with
 | zero => rw [qE2, qE2, qE2, qE2, ml_assoc]
 | succ k ih =>
   rw [qFQ, sh_cv, cv_ad, cv_c, ih, qFQ f, qFQ g, qE2, ml_ad, ml_assoc]
   ac_rfl
theorem cv_oo (f : Nat → T) (k : Nat) : cv f (fun k => if k = 0 then oo else zz) k = f k := by
 unfold cv
 show ad (sm k _) (ml (f k) (if k - k = 0 then oo else zz)) = _
 rw [if_pos (Nat.sub_self k), ml_oo, qBI fun i hi => by show ml _ (if k - i = 0 then (oo : T) else zz) = zz; rw [if_neg Oo, ml_zz], qBR]
theorem qFX (a : T) (f : Nat → T) (k : Nat) : cv (fun k => if k = 0 then a else zz) f k = ml a (f k) := by
 unfold cv
 rw [qAn, qBI fun i hi => by show ml (if i + 1 = 0 then a else zz) _ = zz; rw [if_neg Oo, qBi], ad_zz]
 rfl
instance ser : Rg (Nat → T) where
 zz := fun _ => zz
 oo := fun k => if k = 0 then oo else zz
 ad f g := fun k => ad (f k) (g k)
 ml f g := cv f g
 ic c := fun k => if k = 0 then ic c else zz
 lo m k f := ∀ i, lo m (k - i) (f i)
 ad_assoc a b c := funext fun k => ad_assoc _ _ _
 ad_comm a b := funext fun k => ad_comm _ _
 ad_zz a := funext fun k => ad_zz _
 ml_assoc a b c := funext fun k => qMn _ _ _ _
 ml_comm a b := funext fun k => qGN _ _ _
 ml_oo a := funext fun k => cv_oo _ _
 ml_zz a := funext fun k => qBI fun i _ => ml_zz _
 ml_ad a b c := funext fun k => by
  rw [qGN, cv_ad, qGN b, qGN c]
 ic_0 := funext fun k => by rw [ic_0, ite_self]
 ic_1 := funext fun k => by rw [ic_1]
 ic_ad a b := funext fun k => by
  by_cases h : k = 0
  ·simp only [h, if_true]; exact ic_ad a b
  ·simp only [h, if_false, ad_zz]
 ic_ml a b := funext fun k => by
  rw [qFX]
  by_cases h : k = 0
  ·simp only [h, if_true]; exact ic_ml a b
  ·simp only [h, if_false, ml_zz]
 lo_0 m x := fun i => by rw [Nat.zero_sub]; exact lo_0 _ _
 lo_le h hk := fun i => lo_le (h i) Oo
 lo_zz m k := fun i => lo_zz _ _
 lo_ad h k := fun i => lo_ad (h i) (k i)
 lo_ml {m j k x y} h h' := fun i => qCD fun l hl => lo_le (lo_ml (h l) (h' (i - l))) Oo
 lo_ic {m k c} h := fun i => by
  show lo m (k - i) (if i = 0 then (ic c : T) else zz)
  by_cases hi : i = 0
  ·rw [if_pos hi]; exact lo_ic h
  ·rw [if_neg hi]; exact lo_zz _ _
theorem qEh (f g : Nat → T) (k : Nat) : (ad f g : Nat → T) k = ad (f k) (g k) := rfl
theorem ser_ml (f g : Nat → T) (k : Nat) : (ml f g : Nat → T) k = cv f g k := rfl
theorem qKS (c : Int) (k : Nat) : (ic c : Nat → T) k = if k = 0 then ic c else zz := rfl
theorem qBA (n : Nat) (f : Nat → Nat → T) (k : Nat) : (sm n f : Nat → T) k = sm n (fun i => f i k) := by
 induction n with
 | zero => rfl
 | succ n ih => show ad _ _ = ad _ _; rw [ih]
theorem qC1 (c : Int) (f : Nat → T) (k : Nat) : (ml (ic c) f : Nat → T) k = ml (ic c) (f k) := qFX _ _ _
theorem qE7 (f : Nat → T) (k : Nat) : (ng f : Nat → T) k = ng (f k) := qFX _ _ _
theorem qK3 {m : Int} {n : Nat} {f g : Nat → T} (h : ∀ k, k < n → eqv m (n - k) (f k) (g k)) : eqv m n f g := fun i => by
 show lo m (n - i) (ad (f i) ((ng g : Nat → T) i))
 rw [qE7]
 by_cases hi : i < n
 ·exact h i hi
 ·rw [show n - i = 0 by omega]; exact lo_0 _ _
theorem qHo {m : Int} {n : Nat} {f g : Nat → T} (h : eqv m n f g) (k : Nat) : eqv m (n - k) (f k) (g k) := by
 have := h k
 rw [show (ad f (ng g) : Nat → T) k = ad (f k) ((ng g : Nat → T) k) from rfl, qE7] at this
 exact this
end ser
theorem qId {m : Int} {n : Nat} {a b : Int} : eqv m n a b ↔ n = 0 ∨ a % m = b % m := by
 show (n = 0 ∨ m ∣ a + (-1) * b) ↔ _
 have : m ∣ a + (-1) * b ↔ a % m = b % m := by
  rw [show a + (-1) * b = a - b by omega]
  constructor
  ·intro h; exact Int.emod_eq_emod_iff_emod_sub_eq_zero.2 (Int.emod_eq_zero_of_dvd h)
  ·intro h; exact Int.dvd_of_emod_eq_zero (Int.emod_eq_emod_iff_emod_sub_eq_zero.1 h)
 rw [this]

def ex {S T : Type} [Rg T] (n : Nat) (φ : S → T) (a : T) (f : Nat → S) : T := sm n (fun i => ml (φ (f i)) (pw a i))
section hom
variable {S T U : Type} [Rg S] [Rg T] [Rg U]
structure Hm (m : Int) (n : Nat) (φ : S → T) : Prop where
 ad : ∀ x y, φ (ad x y) = ad (φ x) (φ y)
 zz : φ zz = zz
 ic : ∀ c, eqv m n (φ (ic c)) (ic c)
 ml : ∀ x y, eqv m n (φ (ml x y)) (ml (φ x) (φ y))
 lo : ∀ k x, k ≤ n → lo m k x → lo m k (φ x)
theorem Hm.ng {m : Int} {n : Nat} {φ : S → T} (h : Hm m n φ) (x : S) : φ (ng x) = ng (φ x) := by
 have := h.ad x (Go.Proofs.YtfpphfjlpgefaaaGreat.ng x)
 rw [qEN, h.zz] at this
 have h2 : Rg.ad (φ x) (Go.Proofs.YtfpphfjlpgefaaaGreat.ng (φ x)) = Rg.ad (φ x) (φ (Go.Proofs.YtfpphfjlpgefaaaGreat.ng x)) := by rw [qEN, this]
 exact (qQ3 h2).symm
theorem Hm.eqv {m : Int} {n k : Nat} {φ : S → T} (h : Hm m n φ) {x y : S} (hk : k ≤ n) (e : eqv m k x y) : eqv m k (φ x) (φ y) := by
 have := h.lo k _ hk e
 rw [h.ad, h.ng] at this
 exact this
theorem Hm.sm {m : Int} {n : Nat} {φ : S → T} (h : Hm m n φ) (N : Nat) (f : Nat → S) : φ (sm N f) = sm N (fun i => φ (f i)) := by
 induction N with
 | zero => exact h.zz
 | succ N ih => show φ (Rg.ad _ _) = Rg.ad _ _; rw [h.ad, ih]
theorem Hm.oo {m : Int} {n : Nat} {φ : S → T} (h : Hm m n φ) : Go.Proofs.YtfpphfjlpgefaaaGreat.eqv m n (φ oo) oo := by rw [← ic_1, ← ic_1]; exact h.ic 1
theorem Hm.pw {m : Int} {n : Nat} {φ : S → T} (h : Hm m n φ) (a : S) (k : Nat) : Go.Proofs.YtfpphfjlpgefaaaGreat.eqv m n (φ (pw a k)) (pw (φ a) k) := by
 induction k with
 | zero => exact h.oo
 | succ k ih => exact qA2 (h.ml _ _) (qBj _ ih)
theorem Hm.int (m : Int) (n : Nat) : Hm m n (Rg.ic : Int → T) where
 ad := ic_ad
 zz := ic_0
 ic c := qAY
 ml x y := qAf (ic_ml x y)
 lo k x hk h := by
  rcases h with h | h
  ·subst h; exact lo_0 _ _
  ·exact lo_ic h
theorem ex_lo {m : Int} {n : Nat} {φ : S → T} (h : Hm m n φ) {a : T} (ha : lo m 1 a) (k : Nat) (f : Nat → S) (hk : k ≤ n) (hf : lo m k f) : lo m k (ex n φ a f) :=
 qCD fun i hi => lo_le (lo_ml (h.lo (k - i) _ Oo (hf i)) (qAu ha i)) Oo
theorem Hm.ex {m : Int} {n : Nat} {φ : S → T} (h : Hm m n φ) {a : T} (ha : Rg.lo m 1 a) : Hm m n (ex n φ a) where
 ad x y := by
  unfold Go.Proofs.YtfpphfjlpgefaaaGreat.ex; rw [← qDO]; exact qAC fun i _ => by rw [qEh, h.ad, qEv]
 zz := qBI fun i _ => by rw [show (Rg.zz : Nat → S) i = Rg.zz from rfl, h.zz, qBi]
 ic c := by
  cases n with
  | zero => exact lo_0 _ _
  | succ n =>
    unfold Go.Proofs.YtfpphfjlpgefaaaGreat.ex; rw [qAn, qBI fun i _ => by rw [qKS, if_neg Oo, h.zz, qBi], ad_zz, qKS, if_pos rfl]
    show Go.Proofs.YtfpphfjlpgefaaaGreat.eqv m _ (Rg.ml _ Rg.oo) _
    rw [ml_oo]; exact h.ic c
 lo k x hk hx := ex_lo h ha k x hk hx
 ml x y := by
  unfold Go.Proofs.YtfpphfjlpgefaaaGreat.ex
  have e1 : Go.Proofs.YtfpphfjlpgefaaaGreat.eqv m n (Go.Proofs.YtfpphfjlpgefaaaGreat.sm n (fun i => Rg.ml (φ ((Rg.ml x y : Nat → S) i)) (Go.Proofs.YtfpphfjlpgefaaaGreat.pw a i)))
    (Go.Proofs.YtfpphfjlpgefaaaGreat.sm n (fun k => Go.Proofs.YtfpphfjlpgefaaaGreat.sm (k + 1) (fun i => Rg.ml (Rg.ml (φ (x i)) (φ (y (k - i)))) (Rg.ml (Go.Proofs.YtfpphfjlpgefaaaGreat.pw a i) (Go.Proofs.YtfpphfjlpgefaaaGreat.pw a (k - i)))))) := by
   refine qAm fun k hk => ?_
   rw [ser_ml, cv, h.sm, qCH]; refine qAm fun i hi => ?_
   rw [pw_ad, show i + (k - i) = k by omega]; exact qBj _ (h.ml _ _)
  refine qA2 e1 ?_; rw [qKc n (fun i j => Rg.ml (Rg.ml (φ (x i)) (φ (y j))) (Rg.ml (Go.Proofs.YtfpphfjlpgefaaaGreat.pw a i) (Go.Proofs.YtfpphfjlpgefaaaGreat.pw a j))), qCH]; refine qAm fun i hi => ?_
  rw [qCk]; rw [show n = (n - i) + i by omega, qG0 (n - i) i (fun j => Rg.ml (Rg.ml (φ (x i)) (Go.Proofs.YtfpphfjlpgefaaaGreat.pw a i)) (Rg.ml (φ (y j)) (Go.Proofs.YtfpphfjlpgefaaaGreat.pw a j))), show n - i + i - i = n - i by omega]; refine qA2 (y := Rg.ad (Go.Proofs.YtfpphfjlpgefaaaGreat.sm (n - i) (fun j => Rg.ml (Rg.ml (φ (x i)) (φ (y j))) (Rg.ml (Go.Proofs.YtfpphfjlpgefaaaGreat.pw a i) (Go.Proofs.YtfpphfjlpgefaaaGreat.pw a j)))) Rg.zz) (qAf (ad_zz _).symm) (qAM (qAf (qAC fun j _ => by ac_rfl)) (qAQ (qAo (qCD fun j hj => ?_)))); have := qBC (Rg.ml (φ (x i)) (φ (y (n - i + j)))) (lo_ml (qAu ha i) (qAu ha (n - i + j))); rw [show Rg.ml (Rg.ml (φ (x i)) (Go.Proofs.YtfpphfjlpgefaaaGreat.pw a i)) (Rg.ml (φ (y (n - i + j))) (Go.Proofs.YtfpphfjlpgefaaaGreat.pw a (n - i + j))) = Rg.ml (Rg.ml (φ (x i)) (φ (y (n - i + j)))) (Rg.ml (Go.Proofs.YtfpphfjlpgefaaaGreat.pw a i) (Go.Proofs.YtfpphfjlpgefaaaGreat.pw a (n - i + j))) by ac_rfl]; exact lo_le this Oo
end hom
theorem Hm.of_ex {S T U : Type} [Rg T] [Rg U] {m : Int} {n : Nat} {φ : T → U} (h : Hm m n φ) {χ : S → T} {ψ : S → U} (hc : ∀ x, Go.Proofs.YtfpphfjlpgefaaaGreat.eqv m n (φ (χ x)) (ψ x)) (a : T) (f : Nat → S) : Go.Proofs.YtfpphfjlpgefaaaGreat.eqv m n (φ (Go.Proofs.YtfpphfjlpgefaaaGreat.ex n χ a f)) (Go.Proofs.YtfpphfjlpgefaaaGreat.ex n ψ (φ a) f) := by
 unfold Go.Proofs.YtfpphfjlpgefaaaGreat.ex
 rw [h.sm]
 exact qAm fun i _ => qA2 (h.ml _ _) (qFA (hc _) (h.pw a i))
end
section
open Rg

theorem qBP {m : Int} {n : Nat} {f g : Nat → Int} : eqv m n f g ↔ ∀ k, k < n → f k % m = g k % m := by
 constructor
 ·intro h k hk; rcases qId.1 (qHo h k) with e | e
  ·omega
  ·exact e
 ·intro h; exact qK3 fun k hk => qId.2 (.inr (h k hk))
theorem qAJ {m : Int} {n : Nat} {f g : Nat → Nat → Int} : eqv m n f g ↔ ∀ i j, i + j < n → f i j % m = g i j % m := by
 constructor
 ·intro h i j hk; exact qBP.1 (qHo h i) j Oo
 ·intro h; exact qK3 fun i hi => qBP.2 fun j hj => h i j Oo

section gen
variable {T : Type} [Rg T]
def ev1 (n : Nat) (f : Nat → Int) (a : T) : T := ex n Rg.ic a f
def ev2 (n : Nat) (F : Nat → Nat → Int) (a b : T) : T := ex n (ex n Rg.ic b) a F
theorem hm1 {m : Int} {n : Nat} {a : T} (ha : lo m 1 a) : Hm m n (fun f => ev1 n f a) := (Hm.int m n).ex ha
theorem hm2 {m : Int} {n : Nat} {a b : T} (ha : lo m 1 a) (hb : lo m 1 b) : Hm m n (fun F => ev2 n F a b) := ((Hm.int m n).ex hb).ex ha
theorem qGI (n : Nat) (f : Nat → Int) : (ic (sm n f) : T) = sm n (fun i => ic (f i)) := (Hm.int 0 0).sm n f
theorem qBJ (n : Nat) (F : Nat → Nat → Int) (a b : T) : ev2 n F a b = sm n (fun i => sm n (fun j => ml (ic (F i j)) (ml (pw a i) (pw b j)))) := by
 unfold ev2 ex
 refine qAC fun i _ => ?_
 rw [qCH]
 exact qAC fun j _ => by ac_rfl
theorem qGS {m : Int} {n k : Nat} (F : Nat → Nat → Int) {a b : T} (h0 : F 0 0 = 0) (hk : k ≤ 1) (ha : lo m k a) (hb : lo m k b) : lo m k (ev2 n F a b) := by
 rw [qBJ]
 refine qCD fun i _ => qCD fun j _ => ?_
 by_cases h : i = 0 ∧ j = 0
 ·rw [h.1, h.2, h0, ic_0, qBi]; exact lo_zz _ _
 ·refine qBC _ ?_; obtain rfl | rfl : k = 0 ∨ k = 1 := Oo
  ·exact lo_0 _ _
  ·exact lo_le (lo_ml (qAu ha i) (qAu hb j)) Oo
theorem qFP {m : Int} {n k : Nat} {F G : Nat → Nat → Int} {a b a' b' : T} (ha : lo m 1 a) (hb : lo m 1 b) (hk : k ≤ n) (hF : ∀ i j, i + j < k → F i j % m = G i j % m) (ea : eqv m k a a') (eb : eqv m k b b') : eqv m k (ev2 n F a b) (ev2 n G a' b') := by
 rw [qBJ, qBJ]
 refine qAm fun i _ => qAm fun j _ => ?_
 have e := qFA (qDH ea i) (qDH eb j)
 by_cases h : i + j < k
 ·exact qFA (qDp (hF i j h)) e
 ·have hl : lo m k (ml (pw a i) (pw b j)) := lo_le (lo_ml (qAu ha i) (qAu hb j)) Oo; have hl' : lo m k (ml (pw a' i) (pw b' j)) := lo_eqv (qAQ e) (Nat.le_refl _) hl; exact qA2 (qAo (qBC _ hl)) (qAQ (qAo (qBC _ hl')))
theorem qI5 (k : Nat) : pw (zz : T) (k + 1) = zz := ml_zz _
theorem qBO (a : T) : pw a 1 = a := qC5 _

structure Lw (m : Int) (n : Nat) (F : Nat → Nat → Int) : Prop where
 two : 2 ≤ n
 zer : F 0 0 = 0
 un : ∀ i, i < n → F i 0 % m = (if i = 1 then 1 else 0) % m
 sy : ∀ i j, i + j < n → F i j % m = F j i % m
 as : ∀ p q k, p + q + k < n → sm n (fun i => F i k * (pw F i : Nat → Nat → Int) p q) % m = sm n (fun j => F p j * (pw F j : Nat → Nat → Int) q k) % m
theorem qHz {m : Int} {n : Nat} {F : Nat → Nat → Int} (L : Lw m n F) {a b : T} (ha : lo m 1 a) (hb : lo m 1 b) : eqv m n (ev2 n F a b) (ev2 n F b a) := by
 rw [qBJ, qBJ, qEB]
 refine qAm fun i _ => qAm fun j _ => ?_
 rw [ml_comm (pw a j)]
 by_cases h : i + j < n
 ·exact qBj _ (qDp (L.sy j i Oo))
 ·have hl : lo m n (ml (pw b i) (pw a j)) := lo_le (lo_ml (qAu hb i) (qAu ha j)) Oo; exact qA2 (qAo (qBC _ hl)) (qAQ (qAo (qBC _ hl)))
theorem qGF {n : Nat} (h : 2 ≤ n) (f : Nat → T) : sm n (fun i => ml (ic (if i = 1 then 1 else 0)) (f i)) = f 1 := by
 obtain ⟨k, rfl⟩ : ∃ k, n = k + 1 + 1 := ⟨n - 2, Oo⟩
 rw [qAn, qAn, qBI (n := k) fun i _ => by rw [if_neg Oo, ic_0, qBi]]
 rw [if_neg Oo, if_pos rfl, ic_0, ic_1, qBi, qC5, ad_zz, qBR]
theorem ev2_zz {m : Int} {n : Nat} {F : Nat → Nat → Int} (L : Lw m n F) (a : T) : eqv m n (ev2 n F a zz) a := by
 have h2 := L.two
 rw [qBJ]
 refine qA2 (y := sm n (fun i => ml (ic (if i = 1 then 1 else 0)) (pw a i))) (qAm fun i hi => ?_) (qAf (by rw [qGF h2, qBO]))
 obtain ⟨k, rfl⟩ : ∃ k, n = k + 1 := ⟨n - 1, Oo⟩
 rw [qAn, qBI (n := k) fun j _ => by rw [qI5, ml_zz, ml_zz], ad_zz]
 show eqv m _ (ml _ (ml _ oo)) _
 rw [ml_oo]
 exact qBj _ (qDp (L.un i hi))
theorem qJf {m : Int} {n j k : Nat} {F : Nat → Nat → Int} (L : Lw m n F) {a b e : T} (ha : lo m 1 a) (hb : lo m 1 b) (he : lo m j e) (hj : 1 ≤ j) (hk : k ≤ n) (hk' : k ≤ j + 1) : eqv m k (ev2 n F a (ad b e)) (ad (ev2 n F a b) e) := by
 have h2 := L.two
 have hp : ∀ q, eqv m (j + 1) (pw (ad b e) (q + 2)) (pw b (q + 2)) := by
  intro q
  induction q with
  | zero =>
    show eqv m _ (ml (ml oo (ad b e)) (ad b e)) (ml (ml oo b) b)
    rw [qC5, qC5, qEv, ml_ad, ml_ad]; refine qA2 (y := ad (ad (ml b b) zz) zz) (qAM (qAM qAY (qAo ?_)) (qAo ?_)) (qAf (by rw [ad_zz, ad_zz]))
    ·exact lo_le (lo_ml hb he) Oo
    ·exact lo_ad (lo_le (lo_ml he hb) Oo) (lo_le (lo_ml he he) Oo)
  | succ q ih =>
    show eqv m _ (ml (pw (ad b e) (q + 2)) (ad b e)) (ml (pw b (q + 2)) b)
    rw [ml_ad]; refine qA2 (qAM (qBj b ih) (qAo (lo_le (lo_ml (qAu (lo_ad hb (lo_le he hj)) (q + 2)) he) Oo))) (qAf (ad_zz _))
 rw [qBJ, qBJ]
 obtain ⟨N, rfl⟩ : ∃ N, n = N + 1 + 1 := ⟨n - 2, Oo⟩
 rw [qAn, qAn (N + 1) (fun i => sm (N + 1 + 1) fun j => ml (ic (F i j)) (ml (pw a i) (pw b j)))]
 rw [show ∀ x y z : T, ad (ad x y) z = ad (ad x z) y from fun x y z => by ac_rfl]
 refine qAM ?_ ?_
 ·rw [qAn, qAn (N + 1) (fun j => ml (ic (F 0 j)) (ml (pw a 0) (pw b j))), qAn, qAn N]
  show eqv m k (ad _ (ad (ml (ic (F 0 1)) (ml oo (ml oo (ad b e)))) _)) (ad (ad _ (ad (ml (ic (F 0 1)) (ml oo (ml oo b))) _)) e)
  simp only [qC5]
  have e1 : eqv m k (ml (ic (F 0 1)) (ad b e)) (ad (ml (ic (F 0 1)) b) e) := by
   rw [ml_ad]; refine qAM qAY (qA2 (qBj e (qDp (b := 1) ?_)) (qAf (by rw [ic_1, qC5]))); rw [L.sy 0 1 Oo, L.un 1 Oo, if_pos rfl]
  refine qA2 (qAM (qAf rfl) (qAM e1 (qAm (g := fun i => ml (ic (F 0 (i + 1 + 1))) (ml (pw a 0) (pw b (i + 1 + 1)))) fun i _ => qBh _ (qBh _ (qBe (hp i) hk'))))) (qAf ?_)
  show ad (ml (ic (F 0 0)) (ml (pw a 0) oo)) _ = ad (ad (ml (ic (F 0 0)) (ml (pw a 0) oo)) _) e
  ac_rfl
 ·refine qAm fun i _ => qAm fun q _ => qBh _ ?_
  obtain rfl | ⟨q, rfl⟩ : q = 0 ∨ ∃ q', q = q' + 1 := by cases q with
   | zero => exact .inl rfl
   | succ q => exact .inr ⟨q, rfl⟩
  ·exact qAY
  ·have : eqv m j (pw (ad b e) (q + 1)) (pw b (q + 1)) := qDH (qA2 (qAM qAY (qAo he)) (qAf (ad_zz _))) _; exact qBe (qF_ (qAu ha (i + 1)) this) Oo
theorem qKR (n : Nat) (F : Nat → Nat → Int) (G : Nat → Nat → Nat → Int) (a b c : T) :
  sm n (fun i => ml (sm n (fun k => ml (ic (F i k)) (pw c k))) (ev2 n (G i) a b)) = sm n (fun p => sm n (fun q => sm n (fun k => ml (ic (sm n (fun i => F i k * G i p q))) (ml (pw a p) (ml (pw b q) (pw c k)))))) := by
 have e : ∀ i, ml (sm n (fun k => ml (ic (F i k)) (pw c k))) (ev2 n (G i) a b) = sm n (fun p => sm n (fun q => sm n (fun k => ml (ic (F i k * G i p q)) (ml (pw a p) (ml (pw b q) (pw c k)))))) := by
  intro i; rw [qBJ, qCk]; refine qAC fun p _ => ?_
  rw [qCk]; refine qAC fun q _ => ?_
  rw [qCH]; refine qAC fun k _ => ?_
  rw [ic_ml]; ac_rfl
 rw [qAC fun i _ => e i, qEB]
 refine qAC fun p _ => ?_
 rw [qEB]
 refine qAC fun q _ => ?_
 rw [qEB]
 refine qAC fun k _ => ?_
 rw [qGI, qCH]
theorem qJW (n : Nat) (F : Nat → Nat → Int) (G : Nat → Nat → Nat → Int) (a b c : T) :
  sm n (fun p => ml (sm n (fun j => ml (ic (F p j)) (ev2 n (G j) b c))) (pw a p)) = sm n (fun p => sm n (fun q => sm n (fun k => ml (ic (sm n (fun j => F p j * G j q k))) (ml (pw a p) (ml (pw b q) (pw c k)))))) := by
 refine qAC fun p _ => ?_
 have e : ∀ j, ml (ml (ic (F p j)) (ev2 n (G j) b c)) (pw a p) = sm n (fun q => sm n (fun k => ml (ic (F p j * G j q k)) (ml (pw a p) (ml (pw b q) (pw c k))))) := by
  intro j; rw [qBJ, qCk, qCH]; refine qAC fun q _ => ?_
  rw [qCk, qCH]; refine qAC fun k _ => ?_
  rw [ic_ml]; ac_rfl
 rw [qCH, qAC fun j _ => e j, qEB]
 refine qAC fun q _ => ?_
 rw [qEB]
 refine qAC fun k _ => ?_
 rw [qGI, qCH]
theorem qP2 {m : Int} {n : Nat} {F : Nat → Nat → Int} (L : Lw m n F) {a b c : T} (ha : lo m 1 a) (hb : lo m 1 b) (hc : lo m 1 c) :
  eqv m n (ev2 n F (ev2 n F a b) c) (ev2 n F a (ev2 n F b c)) := by
 have e1 : eqv m n (ev2 n F (ev2 n F a b) c) (sm n (fun i => ml (sm n (fun k => ml (ic (F i k)) (pw c k))) (ev2 n (pw F i) a b))) :=
  qAm fun i _ => qBh _ (qAQ ((hm2 ha hb).pw F i))
 have e2 : eqv m n (ev2 n F a (ev2 n F b c)) (sm n (fun p => ml (sm n (fun j => ml (ic (F p j)) (ev2 n (pw F j) b c))) (pw a p))) :=
  qAm fun p _ => qBj _ (qAm fun j _ => qBh _ (qAQ ((hm2 hb hc).pw F j)))
 refine qA2 e1 (qA2 ?_ (qAQ e2))
 rw [qKR n F (fun i => pw F i), qJW n F (fun i => pw F i)]
 refine qAm fun p _ => qAm fun q _ => qAm fun k _ => ?_
 by_cases h : p + q + k < n
 ·exact qBj _ (qDp (L.as p q k h))
 ·have hl : lo m n (ml (pw a p) (ml (pw b q) (pw c k))) := lo_le (lo_ml (qAu ha p) (lo_ml (qAu hb q) (qAu hc k))) Oo; exact qA2 (qAo (qBC _ hl)) (qAQ (qAo (qBC _ hl)))
end gen
end
end Go.Proofs.YtfpphfjlpgefaaaGreat
