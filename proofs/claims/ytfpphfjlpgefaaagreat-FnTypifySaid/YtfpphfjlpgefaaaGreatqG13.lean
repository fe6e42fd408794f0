/- Lemmas. -/
import Derived.Test.YtfpphfjlpgefaaaGreatqG11
import Derived.Test.YtfpphfjlpgefaaaGreatqG1
import Derived.Test.YtfpphfjlpgefaaaGreatqG12
set_option linter.unusedSimpArgs false
set_option linter.unusedVariables false
namespace Go.Proofs.YtfpphfjlpgefaaaGreat
section
open Rg

theorem qBB (n : Nat) (f : Nat → Int) : qA3 n f = sm n f := by
 induction n with
 | zero => rfl
 | succ n ih => simp only [qA3]; rw [ih]; rfl
theorem qE8 (f g : Nat → Int) (k : Nat) : (ml f g : Nat → Int) k = conv f g k := (qBB _ _).symm
theorem qDF (F G : Nat → Nat → Int) (p q : Nat) : (ml F G : Nat → Nat → Int) p q = qBF F G p q := by
 show (sm (p + 1) (fun i => ml (F i) (G (p - i))) : Nat → Int) q = _
 rw [qBA]
 unfold qBF
 rw [qBB]
 exact qAC fun i _ => qE8 _ _ _
theorem qAW (a m : Int) : a % m % m = a % m := Int.emod_emod_of_dvd _ (Int.dvd_refl m)
theorem L_mk (m : Int) (n : Nat) (f : Nat → Int) : eqv m n (at0 (mk n (fun k => f k % m))) f := qBP.2 fun k hk => by rw [qBN hk, qAW]
theorem qGq (m : Int) (n : Nat) (F : Nat → Nat → Int) : eqv m n (atT (tri n (fun i j => F i j % m))) F := qAJ.2 fun i j h => by rw [qAi h, qAW]
theorem qIv (m : Int) (n : Nat) (a b : Li) : eqv m n (at0 (qAZ m n a b)) (ml (at0 a) (at0 b)) :=
 qA2 (L_mk m n _) (qAf (funext fun k => (qE8 _ _ k).symm))
theorem qHy (m : Int) (n : Nat) (a b : Tb) : eqv m n (atT (qAO m n a b)) (ml (atT a) (atT b)) :=
 qA2 (qGq m n _) (qAf (funext fun p => funext fun q => (qDF _ _ p q).symm))
theorem T_add (m : Int) (n : Nat) (a b : Tb) : eqv m n (atT (qAr m n a b)) (ad (atT a) (atT b)) := qGq m n _
theorem qEW (n k : Nat) : at0 (List.replicate n (0 : Int)) k = 0 := by
 rw [qDD]
 by_cases h : k < n
 ·exact qBN h
 ·exact qKN Oo
theorem L_pow (m : Int) (n : Nat) (a : Li) (k : Nat) : eqv m n (at0 (qAA m n a k)) (pw (at0 a) k) := by
 induction k with
 | zero =>
   refine qBP.2 fun k hk => ?_
   unfold qAA; rw [qCO, qEW, List.length_replicate]
   show _ = (if k = 0 then (1 : Int) else 0) % m
   by_cases h : k = 0
   ·rw [if_pos ⟨h, Oo⟩, if_pos h, qAW]
   ·rw [if_neg (fun e => h e.1), if_neg h]
 | succ k ih => exact qA2 (qIv m n _ _) (qBj _ ih)
theorem qFw (m : Int) (n : Nat) (t : Tb) (k : Nat) : eqv m n (atT (qAa m n t k)) (pw (atT t) k) := by
 induction k with
 | zero =>
   refine qAJ.2 fun i j h => ?_
   unfold qAa; rw [qAi h]
   show _ = (if i = 0 then (fun j : Nat => if j = 0 then (1 : Int) else 0) else (fun _ => 0)) j % m
   by_cases hi : i = 0
   ·by_cases hj : j = 0
    ·rw [if_pos ⟨hi, hj⟩, if_pos hi, if_pos hj, qAW]
    ·rw [if_neg (fun e => hj e.2), if_pos hi, if_neg hj]
   ·rw [if_neg (fun e => hi e.1), if_neg hi]
 | succ k ih => exact qA2 (qHy m n _ _) (qBj _ ih)
theorem qFg {m : Int} {n : Nat} {t : Tb} (ht : PlaT m n t) {i j : Nat} (h : n ≤ i + j) : atT t i j = 0 := by
 obtain ⟨hl, hr⟩ := ht
 by_cases hi : i < t.length
 ·rw [qDI hi]; exact qCq (by rw [(hr i hi).1]; omega)
 ·unfold atT List.getD; rw [List.getElem?_eq_none Oo]; rfl
theorem qN3 {T : Type} [Rg T] {n k : Nat} {f : Nat → T} (hk : k ≤ n) (h : ∀ i, k ≤ i → i < n → f i = zz) : sm n f = sm k f := by
 obtain ⟨d, rfl⟩ : ∃ d, n = k + d := ⟨n - k, Oo⟩
 rw [qG0, qBI (n := d) fun i hi => h (k + i) Oo Oo, ad_zz]
theorem qML (c : Int) (k : Nat) : (ic c : Nat → Int) k = if k = 0 then c else 0 := rfl
def hs {T : Type} [Rg T] (cs : Li) (a : T) : T := sm cs.length (fun k => ml (ic (at0 cs k)) (pw a k))
theorem qJx {T : Type} [Rg T] (c : Int) (cs : Li) (a : T) : hs (c :: cs) a = ad (ic c) (ml (hs cs a) a) := by
 unfold hs
 rw [List.length_cons, qAn, qCH]
 congr 1
 ·show ml (ic c) oo = _
  rw [ml_oo]
 ·exact qAC fun k _ => by rw [show at0 (c :: cs) (k + 1) = at0 cs k from rfl, ml_assoc]; rfl
theorem qIo {T : Type} [Rg T] {n : Nat} {cs : Li} (h : cs.length ≤ n) (a : T) : ev1 n (at0 cs) a = hs cs a :=
 qN3 h fun i hi _ => by rw [qCq hi, ic_0, qBi]
theorem L_addc {m : Int} {n : Nat} {c : Int} {l : Li} (hl : l.length = n) : eqv m n (at0 (qCQ m c l)) (ad (ic c) (at0 l)) := by
 refine qBP.2 fun k hk => ?_
 unfold qCQ
 rw [qCO, qEh, qML]
 show _ = ((if k = 0 then c else 0) + at0 l k) % m
 by_cases h : k = 0
 ·subst h; rw [if_pos ⟨rfl, Oo⟩, if_pos rfl, qAW, Int.add_comm]
 ·rw [if_neg (fun e => h e.1), if_neg h, Int.zero_add]
theorem qQ8 (m : Int) (n : Nat) (f cs : Li) : eqv m n (at0 (qAH m n f cs)) (hs cs (at0 f)) := by
 induction cs with
 | nil => exact qBP.2 fun k hk => by show at0 (List.replicate n 0) k % m = _; rw [qEW]; rfl
 | cons c cs ih =>
   rw [qJx]; exact qA2 (L_addc (qBX _ _ _ _)) (qAM qAY (qA2 (qIv _ _ _ _) (qBj _ ih)))
theorem qKh {m : Int} {n : Nat} (f cs : Li) (hc : cs.length ≤ n) : eqv m n (at0 (qAH m n f cs)) (ev1 n (at0 cs) (at0 f)) := by
 rw [qIo hc]; exact qQ8 m n f cs
theorem T_addc {m : Int} {n : Nat} {c : Int} {l : Tb} : eqv m n (atT (qDl m c n l)) (ad (ic c) (atT l)) := by
 refine qAJ.2 fun i j h => ?_
 unfold qDl
 rw [qAi h, qEh]
 show _ = ((if i = 0 then (fun k : Nat => if k = 0 then c else 0) else (fun _ => 0)) j + atT l i j) % m
 by_cases hi : i = 0
 ·by_cases hj : j = 0
  ·subst hi hj; rw [if_pos ⟨rfl, rfl⟩, if_pos rfl, if_pos rfl, qAW, Int.add_comm]
  ·rw [if_neg (fun e => hj e.2), if_pos hi, if_neg hj, Int.zero_add]
 ·rw [if_neg (fun e => hi e.1), if_neg hi, Int.zero_add]
theorem qNO (m : Int) (n : Nat) (t : Tb) (cs : Li) : eqv m n (atT (qAK m n t cs)) (hs cs (atT t)) := by
 induction cs with
 | nil => exact qAJ.2 fun i j h => by show atT (qAb n) i j % m = _; unfold qAb; rw [qAi h]; rfl
 | cons c cs ih =>
   rw [qJx]; exact qA2 T_addc (qAM qAY (qA2 (qHy _ _ _ _) (qBj _ ih)))
theorem qHD {m : Int} {n : Nat} (t : Tb) (cs : Li) (hc : cs.length ≤ n) : eqv m n (atT (qAK m n t cs)) (ev1 n (at0 cs) (atT t)) := by
 rw [qIo hc]; exact qNO m n t cs
def onx (s : Nat → Int) : Nat → Nat → Int := fun i j => if j = 0 then s i else 0
def ony (s : Nat → Int) : Nat → Nat → Int := fun i j => if i = 0 then s j else 0
theorem qLE (f g : Nat → Int) : onx (ml f g) = ml (onx f) (onx g) := by
 funext p q
 rw [qDF]
 unfold onx qBF
 by_cases h : q = 0
 ·subst h; rw [if_pos rfl, qE8]; unfold conv; refine qC8 fun i _ => ?_
  simp [qA3]
 ·rw [if_neg h, qBG fun i _ => qBG fun j hj => ?_]
  by_cases hj0 : j = 0
  ·subst hj0; show _ * (if q - 0 = 0 then g (p - i) else 0) = 0; rw [if_neg (show ¬ q - 0 = 0 by omega), Int.mul_zero]
  ·show (if j = 0 then f i else 0) * _ = 0; rw [if_neg hj0, Int.zero_mul]
theorem qIs (f g : Nat → Int) : ony (ml f g) = ml (ony f) (ony g) := by
 funext p q
 rw [qDF]
 unfold ony qBF
 by_cases h : p = 0
 ·subst h; rw [if_pos rfl, qE8]; unfold conv; simp [qA3]
 ·rw [if_neg h, qBG fun i hi => qBG fun j hj => ?_]
  by_cases hj0 : i = 0
  ·subst hj0; show _ * (if p - 0 = 0 then g (q - j) else 0) = 0; rw [if_neg (show ¬ p - 0 = 0 by omega), Int.mul_zero]
  ·show (if i = 0 then f j else 0) * _ = 0; rw [if_neg hj0, Int.zero_mul]
theorem onx_oo : onx (oo : Nat → Int) = oo := by
 funext p q
 show (if q = 0 then (if p = 0 then (1 : Int) else 0) else 0) = (if p = 0 then (fun k : Nat => if k = 0 then (1 : Int) else 0) else (fun _ => 0)) q
 by_cases h : p = 0 <;> by_cases h' : q = 0 <;> simp [h, h']
theorem ony_oo : ony (oo : Nat → Int) = oo := by
 funext p q
 show (if p = 0 then (if q = 0 then (1 : Int) else 0) else 0) = (if p = 0 then (fun k : Nat => if k = 0 then (1 : Int) else 0) else (fun _ => 0)) q
 by_cases h : p = 0 <;> by_cases h' : q = 0 <;> simp [h, h']
theorem qES (f : Nat → Int) (k : Nat) : onx (pw f k) = pw (onx f) k := by
 induction k with
 | zero => exact onx_oo
 | succ k ih => show onx (ml (pw f k) f) = _; rw [qLE, ih]; rfl
theorem qEZ (f : Nat → Int) (k : Nat) : ony (pw f k) = pw (ony f) k := by
 induction k with
 | zero => exact ony_oo
 | succ k ih => show ony (ml (pw f k) f) = _; rw [qIs, ih]; rfl
theorem qGm (f g : Nat → Int) (p q : Nat) : (ml (onx f) (ony g) : Nat → Nat → Int) p q = f p * g q := by
 rw [qDF]
 unfold qBF
 show qA3 p _ + qA3 (q + 1) (fun j => onx f p j * ony g (p - p) (q - j)) = _
 rw [qBG fun i hi => qBG fun j _ => by show _ * (if p - i = 0 then g (q - j) else 0) = 0; rw [if_neg (show ¬ p - i = 0 by omega), Int.mul_zero], Int.zero_add]
 rw [qGu, qBG fun j hj => by show (if j + 1 = 0 then f p else 0) * _ = 0; rw [if_neg Oo, Int.zero_mul]]
 unfold onx ony
 simp
theorem T_bot {m : Int} {n : Nat} {t : Tb} (ht : PlaT m n t) (a b : Li) : eqv m n (atT (qBw m n t a b)) (ev2 n (atT t) (onx (at0 a)) (ony (at0 b))) := by
 refine qA2 (qGq m n _) (qAJ.2 fun p q hpq => ?_)
 rw [qBJ, qBA, qBA]
 show qBo n (atT t) (qAA m n a) (qAA m n b) n 0 p q % m = _
 unfold qBo
 rw [show qA3 0 (fun j' => atT t n j' * (at0 (qAA m n a n) p * at0 (qAA m n b j') q)) = 0 from rfl, Int.add_zero, ← qBB]
 refine qCI fun i hi => ?_
 rw [qBA, qBA, ← qBB]
 rw [qDe (n := n) (k := n - i) Oo fun j hj _ => ?_]
 ·refine qCI fun j hj => ?_
  rw [qC1, qC1, ← qES, ← qEZ, qGm]
  show atT t i j * _ % m = (atT t i j * _) % m
  refine qAd rfl (qAd ?_ ?_)
  ·exact qBP.1 (L_pow m n a i) p Oo
  ·exact qBP.1 (L_pow m n b j) q Oo
 ·rw [qC1, qC1, qFg ht Oo]; exact Int.zero_mul _
theorem qDc {m : Int} {a : Li} (h : at0 a 0 = 0) : lo m 1 (at0 a) := fun i => by
 by_cases hi : i = 0
 ·subst hi; rw [h]; exact lo_zz _ _
 ·rw [show 1 - i = 0 by omega]; exact lo_0 _ _
theorem qEr {m : Int} {k : Nat} {f : Nat → Int} (h : ∀ i, i < k → f i = 0) : lo m k f := fun i => by
 by_cases hi : i < k
 ·rw [h i hi]; exact lo_zz _ _
 ·rw [show k - i = 0 by omega]; exact lo_0 _ _
theorem qFd {m : Int} {f : Nat → Int} (h : f 0 = 0) : lo m 1 (onx f) := fun i => by
 by_cases hi : i = 0
 ·subst hi; exact qEr fun j hj => by unfold onx; rw [if_pos Oo, h]
 ·rw [show 1 - i = 0 by omega]; exact lo_0 _ _
theorem qFF {m : Int} {f : Nat → Int} (h : f 0 = 0) : lo m 1 (ony f) := fun i => by
 by_cases hi : i = 0
 ·subst hi; exact qEr fun j hj => by unfold ony; rw [if_pos rfl, show j = 0 by omega, h]
 ·rw [show 1 - i = 0 by omega]; exact lo_0 _ _
theorem lw_of {m : Int} {n : Nat} {t : Tb} (h2 : 2 ≤ n) (ht : PlaT m n t) (h : qAV m t n = []) : Lw m n (atT t) := by
 obtain ⟨h1, hs, ha⟩ := qM3 h
 refine ⟨h2, ?_, fun i hi => ?_, fun i j hij => ?_, fun p q k hpq => ?_⟩
 ·rw [h1 0 Oo]; rfl
 ·rw [h1 i hi]; rfl
 ·rcases Nat.lt_trichotomy i j with e | e | e
  ·rw [hs i j e hij]
  ·rw [e]
  ·rw [hs j i e Oo]
 ·have h := ha p q k hpq; unfold qAx qAt at h
  have e1 : qA3 (n - k) (fun i => atT t i k * atT (qAa m n t i) p q) % m = sm n (fun i => atT t i k * (pw (atT t) i : Nat → Nat → Int) p q) % m := by
   rw [← qBB, qDe (n := n) (k := n - k) Oo fun i hi _ => by rw [qFg ht Oo, Int.zero_mul]]; exact qCI fun i _ => qAd rfl (qAJ.1 (qFw m n t i) p q Oo)
  have e2 : qA3 (n - p) (fun j => atT t p j * atT (qAa m n t j) q k) % m = sm n (fun j => atT t p j * (pw (atT t) j : Nat → Nat → Int) q k) % m := by
   rw [← qBB, qDe (n := n) (k := n - p) Oo fun j hj _ => by rw [qFg ht Oo, Int.zero_mul]]; exact qCI fun j _ => qAd rfl (qAJ.1 (qFw m n t j) q k Oo)
  rw [← e1, ← e2, h]
theorem qBT {m : Int} {n : Nat} {t : Tb} (ht : PlaT m n t) {i j : Nat} (h : i + j < n) : 0 ≤ atT t i j ∧ atT t i j < m := by
 obtain ⟨hl, hr⟩ := ht
 have hi : i < t.length := Oo
 rw [qDI hi]
 exact (hr i hi).2 _ (qI7 (by rw [(hr i hi).1]; omega))
theorem qHE {m : Int} {n : Nat} {t s : Tb} (ht : PlaT m n t) (hs : PlaT m n s) (h : eqv m n (atT t) (atT s)) : t = s := by
 rw [qEm ht.1 (fun i hi => by rw [(ht.2 i hi).1, ht.1]), qEm hs.1 (fun i hi => by rw [(hs.2 i hi).1, hs.1])]
 refine qAE fun i j hij => ?_
 have := qAJ.1 h i j hij
 have a := qBT ht hij
 have b := qBT hs hij
 rwa [Int.emod_eq_of_lt a.1 a.2, Int.emod_eq_of_lt b.1 b.2] at this
def mon (k : Nat) (c : Int) : Nat → Int := fun i => if i = k then c else 0
theorem qFY (m : Int) (k : Nat) (c : Int) : lo m k (mon k c) := qEr fun i hi => if_neg Oo
theorem qGn {T : Type} [Rg T] {m : Int} {n : Nat} (h2 : 2 ≤ n) (a : T) : ev1 n (at0 (qAk n)) a = a := by
 unfold ev1 ex
 rw [qAC (g := fun i => ml (ic (if i = 1 then 1 else 0)) (pw a i)) fun i hi => ?_, qGF h2, qBO]
 unfold qAk
 rw [qCO, qEW, List.length_replicate]
 by_cases h : i = 1
 ·rw [if_pos ⟨h, Oo⟩, if_pos h]
 ·rw [if_neg (fun e => h e.1), if_neg h]
end
section
open Rg

section ev
variable {T : Type} [Rg T]
theorem qED {m : Int} {n k : Nat} {f g : Nat → Int} {a : T} (ha : lo m 1 a) (hk : k ≤ n) (h : eqv m k f g) : eqv m k (ev1 n f a) (ev1 n g a) := (hm1 (n := n) ha).eqv hk h
theorem qC2 {m : Int} {n k : Nat} (f : Nat → Int) {a b : T} (h : eqv m k a b) : eqv m k (ev1 n f a) (ev1 n f b) := qAm fun i _ => qBh _ (qDH h i)
theorem qFZ {m : Int} {n : Nat} {a : T} (ha : lo m 1 a) (f g : Nat → Int) : eqv m n (ev1 n (ev1 n f g) a) (ev1 n f (ev1 n g a)) :=
 (hm1 (n := n) ha).of_ex (χ := Rg.ic) (ψ := Rg.ic) (fun c => (hm1 ha).ic c) g f
theorem qIO {m : Int} {k : Nat} {r e : T} (hr : lo m 1 r) (he : lo m (k + 1) e) : ∀ i, eqv m (k + 2) (pw (ad r e) (i + 2)) (pw r (i + 2)) := by
 have h1 : lo m 1 (ad r e) := lo_ad hr (lo_le he Oo)
 have h0 : eqv m (k + 1) (ad r e) r := by
  have : eqv m (k + 1) (ad r e) (ad r zz) := qAM qAY (qAo he)
  rwa [ad_zz] at this
 have key : ∀ i, eqv m (k + 2) (pw (ad r e) (i + 2)) (pw r (i + 2)) := fun i => by
  have a : eqv m (1 + (k + 1)) (ml (ad r e) (pw (ad r e) (i + 1))) (ml (ad r e) (pw r (i + 1))) := qF_ h1 (qDH h0 (i + 1)); have b : eqv m (1 + (k + 1)) (ml (pw r (i + 1)) (ad r e)) (ml (pw r (i + 1)) r) := qF_ (lo_le (qAu hr (i + 1)) Oo) h0; rw [show k + 2 = 1 + (k + 1) by omega]
  show eqv m _ (ml (pw (ad r e) (i + 1)) (ad r e)) (ml (pw r (i + 1)) r)
  rw [ml_comm (pw (ad r e) (i + 1))]; refine qA2 a ?_; rw [ml_comm (ad r e)]; exact b
 exact key
theorem qJv {m : Int} {n k : Nat} (h2 : 2 ≤ n) (f : Nat → Int) {r e : T} (hr : lo m 1 r) (he : lo m (k + 1) e) : eqv m (k + 2) (ev1 n f (ad r e)) (ad (ev1 n f r) (ml (ic (f 1)) e)) := by
 obtain ⟨j, rfl⟩ : ∃ j, n = j + 2 := ⟨n - 2, Oo⟩
 unfold ev1 ex
 rw [qAn, qAn, qAn (n := j + 1), qAn (n := j)]
 have e1 : eqv m (k + 2) (sm j (fun i => ml (ic (f (i + 1 + 1))) (pw (ad r e) (i + 1 + 1)))) (sm j (fun i => ml (ic (f (i + 1 + 1))) (pw r (i + 1 + 1)))) := qAm fun i _ => qBh _ (qIO hr he i)
 have e2 : ml (ic (f (0 + 1))) (pw (ad r e) (0 + 1)) = ad (ml (ic (f (0 + 1))) (pw r (0 + 1))) (ml (ic (f 1)) e) := by rw [qBO, qBO, ml_ad]
 rw [e2]
 refine qA2 (qAM qAY (qAM qAY e1)) (qAf ?_)
 show ad (ml _ (pw (ad r e) 0)) _ = ad (ad (ml _ (pw r 0)) _) _
 rw [show pw (ad r e) 0 = pw r 0 from rfl]
 ac_rfl
end ev

theorem qDs {n i : Nat} {f : Nat → Int} (hi : i < n) (h : ∀ j, j < n → j ≠ i → f j = 0) : qA3 n f = f i := by
 induction n with
 | zero => omega
 | succ n ih =>
   simp only [qA3]
   by_cases e : i = n
   ·subst e; rw [qBG fun j hj => h j Oo Oo, Int.zero_add]
   ·rw [ih Oo fun j hj hne => h j Oo hne, h n Oo Oo, Int.add_zero]
def xS : Nat → Int := mon 1 1
theorem qEV {n : Nat} (h : 2 ≤ n) : at0 (qAk n) = xS := by
 funext i
 unfold qAk xS mon
 rw [qCO, qEW, List.length_replicate]
 by_cases hi : i = 1
 ·rw [if_pos ⟨hi, Oo⟩, if_pos hi]
 ·rw [if_neg (fun e => hi e.1), if_neg hi]
theorem ev1_x {m : Int} {n : Nat} (f : Nat → Int) : eqv m n (ev1 n f xS) f := by
 have : ∀ i, pw xS i = mon i 1 := by
  intro i
  induction i with
  | zero => funext k; show (oo : Nat → Int) k = _; rfl
  | succ i ih =>
    show ml (pw xS i) xS = _
    rw [ih]
    funext k
    rw [qE8]; unfold conv
    by_cases hk : k = i + 1
    ·subst hk; rw [qDs (i := i) Oo fun j hj hne => by unfold mon; rw [if_neg hne, Int.zero_mul]]; unfold mon xS mon; simp
    ·rw [qBG fun j hj => ?_]
     ·unfold mon; rw [if_neg hk]
     ·unfold mon xS mon
      by_cases hji : j = i
      ·subst hji; rw [if_neg (show ¬ k - j = 1 by omega), Int.mul_zero]
      ·rw [if_neg hji, Int.zero_mul]
 refine qBP.2 fun k hk => ?_
 unfold ev1 ex
 rw [qBA, ← qBB, qDs (i := k) hk fun j hj hne => by
  rw [qC1, this]
  show f j * mon j 1 k = 0
  unfold mon; rw [if_neg (fun e => hne e.symm), Int.mul_zero]]
 rw [qC1, this]
 show (f k * mon k 1 k) % m = _
 unfold mon; rw [if_pos rfl, Int.mul_one]
theorem lo_x (m : Int) : lo m 1 xS := qFY m 1 1
theorem qEj {T : Type} [Rg T] {m : Int} {n : Nat} (h2 : 2 ≤ n) (a : T) : ev1 n xS a = a := by
 rw [← qEV h2]; exact qGn (m := m) h2 a
theorem qKT {m : Int} {n k : Nat} (h2 : 2 ≤ n) (f : Nat → Int) {u v : Int} (hu : f 1 * u % m = 1 % m) {r : Nat → Int} (hr : lo m 1 r) (hk : 1 ≤ k) (h : eqv m (k + 1) (ev1 n f r) xS)
  (hv : v % m = (-((ev1 n f r : Nat → Int) (k + 1)) * u) % m) : eqv m (k + 2) (ev1 n f (ad r (mon (k + 1) v))) xS := by
 refine qA2 (qJv h2 f hr (qFY m (k + 1) v)) (qBP.2 fun i hi => ?_)
 rw [qEh, qC1]
 show ((ev1 n f r : Nat → Int) i + f 1 * mon (k + 1) v i) % m = _
 by_cases hik : i = k + 1
 ·subst hik; unfold mon xS; rw [if_pos rfl]; unfold mon; rw [if_neg Oo]; generalize (ev1 n f r : Nat → Int) (k + 1) = c at hv ⊢; have e1 : (f 1 * v) % m = (f 1 * (-c * u)) % m := qAd rfl hv; have e2 : f 1 * (-c * u) = f 1 * u * (-c) := by grind
  have e3 : (f 1 * u * (-c)) % m = (1 * (-c)) % m := qAd hu rfl; rw [Int.add_emod, e1, e2, e3, ← Int.add_emod]; rw [Int.one_mul, Int.add_right_neg]
 ·have := qBP.1 h i Oo; unfold mon; rw [if_neg hik, Int.mul_zero, Int.add_zero, this]
theorem qLn {T : Type} [Rg T] {m : Int} {n k : Nat} {f : Nat → Int} (h0 : f 0 % m = 0) : eqv m k (ev1 n f (zz : T)) zz := by
 cases n with
 | zero => exact qAY
 | succ n =>
   unfold ev1 ex; rw [qAn, qBI fun i _ => by rw [qI5, ml_zz], ad_zz]; have : eqv m k (ic (f 0) : T) (ic 0) := qDp (by rw [h0, Int.zero_emod]); rw [ic_0] at this; have h := qBj (pw (zz : T) 0) this
   rwa [qBi] at h
theorem qIe {m : Int} {n : Nat} (h2 : 2 ≤ n) {f : Nat → Int} (h0 : f 0 % m = 0) {u : Int} (hu : f 1 * u % m = 1 % m) : eqv m 2 (ev1 n f (mon 1 u)) xS := by
 have h := qJv (m := m) (k := 0) h2 f (r := (zz : Nat → Int)) (e := mon 1 u) (lo_zz _ _) (qFY m 1 u)
 rw [qBR] at h
 refine qA2 h (qA2 (qAM (qLn h0) qAY) ?_)
 rw [qBR]
 refine qBP.2 fun i hi => ?_
 rw [qC1]
 show (f 1 * mon 1 u i) % m = mon 1 1 i % m
 unfold mon
 split
 ·exact hu
 ·rw [Int.mul_zero]
theorem qPU {m : Int} {n : Nat} (h2 : 2 ≤ n) {f : Nat → Int} (h0 : f 0 % m = 0) {u : Int} (hu : f 1 * u % m = 1 % m) : ∃ g : Nat → Int, lo m 1 g ∧ g 1 = u ∧ eqv m n (ev1 n f g) xS := by
 have key : ∀ k, ∃ g : Nat → Int, lo m 1 g ∧ g 1 = u ∧ eqv m (k + 2) (ev1 n f g) xS := by
  intro k
  induction k with
  | zero => exact ⟨mon 1 u, qFY m 1 u, if_pos rfl, qIe h2 h0 hu⟩
  | succ k ih =>
    obtain ⟨g, hg, h1, he⟩ := ih; refine ⟨ad g (mon (k + 1 + 1) (-((ev1 n f g : Nat → Int) (k + 1 + 1)) * u)), lo_ad hg (lo_le (qFY _ _ _) Oo), ?_, qKT h2 f hu hg Oo he rfl⟩; rw [qEh]
    show g 1 + mon _ _ 1 = u
    unfold mon; rw [if_neg Oo, Int.add_zero, h1]
 obtain ⟨g, hg, h1, he⟩ := key n
 exact ⟨g, hg, h1, qBe he Oo⟩
theorem qJE {m : Int} {n : Nat} (h2 : 2 ≤ n) {f g : Nat → Int} (hf : lo m 1 f) (hg : lo m 1 g) (he : eqv m n (ev1 n f g) xS) {u : Int} (hu : g 1 * u % m = 1 % m) : eqv m n (ev1 n g f) xS := by
 have g0 : g 0 % m = 0 := by have := (qBP (n := 1)).1 (qAo hg) 0 Oo; rw [this]; rfl
 obtain ⟨h, hh, _, hx⟩ := qPU h2 g0 hu
 have e1 : eqv m n f h := by
  refine qA2 (qAQ (ev1_x f)) (qA2 (qC2 f (qAQ hx)) ?_); refine qA2 (qAQ (qFZ hh f g)) ?_; refine qA2 (qED hh (Nat.le_refl _) he) (qAf (qEj (m := m) h2 h))
 exact qA2 (qC2 g e1) hx
theorem qKA (m : Int) (n : Nat) (a : Li) : ∀ k i, k < i → at0 (qAD m n a k) i = 0
 | 0, i, _ => by unfold qAD; exact qEW _ _
 | 1, i, h => by unfold qAD; rw [qCO, if_neg Oo]; exact qEW _ _
 | k + 2, i, h => by unfold qAD; rw [qCO, if_neg Oo]; exact qKA m n a (k + 1) i Oo
theorem qKm {m : Int} (hm : 0 < m) {n : Nat} (h2 : 2 ≤ n) {a : Li} (la : a.length = n) (a0 : at0 a 0 = 0) (hu : at0 a 1 * qAI m (at0 a 1) % m = 1 % m) : eqv m n (ev1 n (at0 a) (at0 (qAc m n a))) xS := by
 have key : ∀ k, k + 1 < n → eqv m (k + 2) (ev1 n (at0 a) (at0 (qAD m n a (k + 1)))) xS := by
  intro k
  induction k with
  | zero =>
    intro _
    have e : at0 (qAD m n a 1) = mon 1 (qAI m (at0 a 1)) := by
     funext i
     unfold qAD mon; rw [qCO, qEW, List.length_replicate]
     by_cases hi : i = 1
     ·rw [if_pos ⟨hi, Oo⟩, if_pos hi]
     ·rw [if_neg (fun e => hi e.1), if_neg hi]
    rw [e]; exact qIe h2 (by rw [a0, Int.zero_emod]) hu
  | succ k ih =>
    intro hk; have ih := ih Oo; have r1 : lo m 1 (at0 (qAD m n a (k + 1))) := qDc (qD2 m n a (k + 1))
    have e : at0 (qAD m n a (k + 2)) = ad (at0 (qAD m n a (k + 1))) (mon (k + 1 + 1) ((-(at0 (qAH m n (qAD m n a (k + 1)) a) (k + 2)) * qAI m (at0 a 1)) % m)) := by
     funext i
     rw [qEh]
     show at0 ((qAD m n a (k + 1)).set (k + 2) _) i = at0 _ i + mon _ _ i
     rw [qCO, qFo]; unfold mon
     by_cases hi : i = k + 2
     ·rw [if_pos ⟨hi, Oo⟩, if_pos Oo, hi, qKA m n a (k + 1) (k + 2) Oo, Int.zero_add]
     ·rw [if_neg (fun e => hi e.1), if_neg Oo, Int.add_zero]
    show eqv m (k + 1 + 2) (ev1 n (at0 a) (at0 (qAD m n a (k + 2)))) xS
    rw [e]; refine qKT h2 (at0 a) hu r1 Oo ih ?_; rw [qAW]; have := qBP.1 (qKh (m := m) (qAD m n a (k + 1)) a (n := n) Oo) (k + 2) Oo; refine qAd ?_ rfl; rw [Int.neg_emod_eq_sub_emod, Int.neg_emod_eq_sub_emod, Int.sub_emod, this, ← Int.sub_emod]
 have := key (n - 2) Oo
 rw [show n - 2 + 1 = n - 1 by omega, show n - 2 + 2 = n by omega] at this
 exact this
theorem qHP (m : Int) {n : Nat} (h2 : 2 ≤ n) (a : Li) : ∀ k, at0 (qAD m n a (k + 1)) 1 = qAI m (at0 a 1)
 | 0 => by unfold qAD; rw [qCO, if_pos ⟨rfl, by simp; omega⟩]
 | k + 1 => by unfold qAD; rw [qCO, if_neg Oo]; exact qHP m h2 a k
end
section
open Rg

def weiV (m : Int) (a : Nat → Int) (w : Li) (k : Nat) : Int :=
 (a 0 * at0 w (k + 2) + a 1 * at0 w (k + 1) + a 2 * at0 (qAZ m (k + 4) w w) (k + 3) + a 3 * at0 (qAZ m (k + 4) w w) (k + 2) + a 4 * at0 (qAZ m (k + 4) (qAZ m (k + 4) w w) w) (k + 3) + (if k = 0 then 1 else 0)) % m
def qBS (m : Int) (N : Nat) (a : Nat → Int) : Nat → Li
 | 0 => List.replicate N 0
 | k + 1 => (qBS m N a k).set (k + 3) (weiV m a (qBS m N a k) k)
theorem qHr (m : Int) (N : Nat) (a : Nat → Int) : ∀ k, (qBS m N a k).length = N
 | 0 => by simp [qBS]
 | k + 1 => by simp [qBS, qHr m N a k]
theorem qHV {m : Int} (hm : 0 < m) (N : Nat) (a : Nat → Int) : ∀ k, ∀ y ∈ qBS m N a k, 0 ≤ y ∧ y < m
 | 0 => by intro y hy; simp [qBS] at hy; omega
 | k + 1 => by
   intro y hy; rcases List.mem_or_eq_of_mem_set hy with h | rfl
   ·exact qHV hm N a k y h
   ·exact qA6 hm
theorem x_ml (f : Nat → Int) (k : Nat) : (ml xS f : Nat → Int) (k + 1) = f k := by
 rw [qE8]
 unfold conv
 rw [qDs (i := 1) Oo fun j hj hne => by unfold xS mon; rw [if_neg hne, Int.zero_mul]]
 unfold xS mon
 rw [if_pos rfl, Int.one_mul, Nat.add_sub_cancel]
theorem x_ml0 (f : Nat → Int) : (ml xS f : Nat → Int) 0 = 0 := by
 rw [qE8]
 unfold conv
 rw [qOh]
 unfold xS mon
 rw [if_neg Oo, Int.zero_mul]
theorem x3 (k : Nat) : (ml (ml xS xS) xS : Nat → Int) k = if k = 3 then 1 else 0 := by
 rw [ml_assoc]
 cases k with
 | zero => rw [x_ml0]; rfl
 | succ k =>
   rw [x_ml]; cases k with
   | zero => rw [x_ml0]; rfl
   | succ k =>
     rw [x_ml]; unfold xS mon
     by_cases h : k = 1
     ·subst h; rfl
     ·rw [if_neg h, if_neg Oo]
end
section
open Rg

section inv
variable {T : Type} [Rg T]
def geo (r : T) : Nat → T
 | 0 => oo
 | j + 1 => ad (ml (geo r j) r) oo
def sgnL (m : Int) (n : Nat) : Li := mk n (fun k => if k % 2 = 0 then 1 else m - 1)
end inv

section law
variable {T : Type} [Rg T]
end law
end
section
open Rg

def qBb (m : Int) (n : Nat) (a b : Tb) : Tb := tri n (fun i j => (atT a i j - atT b i j) % m)
def qAP (m : Int) (n : Nat) (c : Int) (t : Tb) : Tb := tri n (fun i j => (c * atT t i j) % m)
def oneT (m : Int) (n : Nat) : Tb := tri n (fun i j => (if i = 0 ∧ j = 0 then 1 else 0) % m)
def xT (n : Nat) : Tb := tri n (fun i j => if i = 1 ∧ j = 0 then 1 else 0)
def yT (n : Nat) : Tb := tri n (fun i j => if i = 0 ∧ j = 1 then 1 else 0)
def linT (m : Int) (n : Nat) (W : Li) : Tb := tri n (fun i j => at0 W (i + j + 1) % m)
def clnT (m : Int) (n : Nat) (w : Li) : Tb := tri n (fun i j => (if j = 0 then at0 w i else 0) % m)
theorem T_sca (m : Int) (n : Nat) (c : Int) (t : Tb) : eqv m n (atT (qAP m n c t)) (ml (ic c) (atT t)) := by
 refine qA2 (qGq m n _) (qAJ.2 fun i j h => ?_)
 rw [qC1]
 show c * atT t i j % m = (ml (ic c) (atT t i) : Nat → Int) j % m
 rw [qC1]; rfl
def geoT (m : Int) (n : Nat) (r : Tb) : Nat → Tb
 | 0 => oneT m n
 | j + 1 => qAr m n (qAO m n (geoT m n r j) r) (oneT m n)
def invT (m : Int) (n : Nat) (f : Tb) : Tb := geoT m n (qBb m n (oneT m n) f) (n - 1)
section tabs
variable (m : Int) (n : Nat) (a : Nat → Int) (W : Li)
end tabs
section tabr
variable (m : Int) (n : Nat) (a : Nat → Int) (W : Li)
def wrV (L : Tb) : Tb := qAr m n (clnT m n (W.take n)) (qAP m n (m - 1) (qAO m n L (xT n)))
def wrTop (L V : Tb) : Tb :=
 qAr m n (qAr m n (qAr m n (qAr m n (qAP m n (a 0) L) (qAP m n (a 1) V)) (qAP m n (a 2) (qAO m n L L))) (qAP m n (2 * a 3 % m) (qAO m n L V))) (qAP m n (3 * a 4 % m) (qAO m n (qAO m n L L) V))
def wrBot (L : Tb) : Tb :=
 qAr m n (qAr m n (qAP m n (a 1) L) (qAP m n (a 3) (qAO m n L L))) (qAP m n (a 4) (qAO m n (qAO m n L L) L))
def wrU (L : Tb) : Tb :=
 qAP m n (m - 1) (qAr m n (qAr m n (xT n) (yT n)) (qAO m n (wrTop m n a L (wrV m n W L)) (qAK m n (wrBot m n a L) (sgnL m n))))
def wrB : Li := mk n (fun k => if k = 0 then 1 else (m - (a 2 * at0 W k + (if k = 1 then a 0 else 0)) % m) % m)
def wrLaw : Tb := qAK m n (wrU m n a W (linT m n W)) (qAZ m n ((List.replicate n 0).set 1 (m - 1)) (qCj m n (wrB m n a W)))
end tabr
end
end Go.Proofs.YtfpphfjlpgefaaaGreat
