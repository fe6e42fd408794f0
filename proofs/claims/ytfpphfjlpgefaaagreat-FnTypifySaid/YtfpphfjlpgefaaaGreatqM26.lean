/- Lemmas. -/
import Derived.Test.YtfpphfjlpgefaaaGreatqM24
import Derived.Test.YtfpphfjlpgefaaaGreatqG13
import Derived.Test.YtfpphfjlpgefaaaGreatqG7
import Derived.Test.YtfpphfjlpgefaaaGreatqG18
import Derived.Test.YtfpphfjlpgefaaaGreatqM13
import Derived.Test.YtfpphfjlpgefaaaGreatqM14
import Derived.Test.YtfpphfjlpgefaaaGreatqG12
set_option maxHeartbeats 2000000
set_option maxRecDepth 100000
set_option linter.unusedSimpArgs false
set_option linter.unusedVariables false
namespace Go.Proofs.YtfpphfjlpgefaaaGreat
open Go.RowKit
section
open Rg

section gen
variable {T : Type} [Rg T]
theorem qPy {n : Nat} (h1 : 1 ≤ n) (f : Nat → Int) (a b : T) : ev2 n (onx f) a b = ev1 n f a := by
 rw [qBJ]
 unfold ev1 ex
 refine qAC fun i _ => ?_
 obtain ⟨r, rfl⟩ : ∃ r, n = r + 1 := ⟨n - 1, Oo⟩
 rw [qAn, qBI fun j _ => by show ml (ic (onx f i (j + 1))) _ = zz; rw [show onx f i (j + 1) = 0 from rfl, ic_0, qBi], ad_zz]
 show ml (ic (onx f i 0)) (ml (pw a i) oo) = _
 rw [ml_oo]; rfl
theorem qMA {n : Nat} (h1 : 1 ≤ n) (f : Nat → Int) (a b : T) : ev2 n (ony f) a b = ev1 n f b := by
 rw [qBJ]
 obtain ⟨r, rfl⟩ : ∃ r, n = r + 1 := ⟨n - 1, Oo⟩
 rw [qAn, qBI fun i _ => qBI fun j _ => by show ml (ic (ony f (i + 1) j)) _ = zz; rw [show ony f (i + 1) j = 0 from rfl, ic_0, qBi], ad_zz]
 unfold ev1 ex
 refine qAC fun j _ => ?_
 show ml (ic (ony f 0 j)) (ml oo (pw b j)) = _
 rw [qC5]; rfl
theorem qBa {m : Int} {n : Nat} {f : Nat → Int} (hf : lo m 1 f) (hn : 1 ≤ n) {a : T} (ha : lo m 1 a) : lo m 1 (ev1 n f a) := (hm1 (n := n) ha).lo 1 f hn hf
end gen
theorem qHQ {S T : Type} [Rg S] [Rg T] {m : Int} {n : Nat} {φ : S → T} (H : Hm m n φ) (f : Nat → Int) (a : S) : eqv m n (φ (ev1 n f a)) (ev1 n f (φ a)) := H.of_ex (χ := fun c => ic c) (ψ := fun c => ic c) (fun c => H.ic c) a f
theorem hm_ev2 {S T : Type} [Rg S] [Rg T] {m : Int} {n : Nat} {φ : S → T} (H : Hm m n φ) (F : Nat → Nat → Int) (a b : S) : eqv m n (φ (ev2 n F a b)) (ev2 n F (φ a) (φ b)) :=
 H.of_ex (χ := ex n (fun c => ic c) b) (ψ := ex n (fun c => ic c) (φ b)) (fun x => H.of_ex (χ := fun c => ic c) (ψ := fun c => ic c) (fun c => H.ic c) b x) a F

structure Cnj (m : Int) (n : Nat) (F G : Nat → Nat → Int) (f g : Nat → Int) : Prop where
 two : 2 ≤ n
 lf : lo m 1 f
 lg : lo m 1 g
 fg : eqv m n (ev1 n f g) xS
 gf : eqv m n (ev1 n g f) xS
 ok : eqv m n G (ev1 n f (ev2 n F (onx g) (ony g)))
section cnj
variable {m : Int} {n : Nat} {F G : Nat → Nat → Int} {f g : Nat → Int}
theorem Cnj.back {T : Type} [Rg T] (C : Cnj m n F G f g) {a : T} (ha : lo m 1 a) : eqv m n (ev1 n g (ev1 n f a)) a := by
 refine qA2 (qAQ (qFZ ha g f)) (qA2 (qED ha (nl _) C.gf) (qAf ?_))
 exact qEj (m := m) C.two a
theorem Cnj.forth {T : Type} [Rg T] (C : Cnj m n F G f g) {a : T} (ha : lo m 1 a) : eqv m n (ev1 n f (ev1 n g a)) a := by
 refine qA2 (qAQ (qFZ ha f g)) (qA2 (qED ha (nl _) C.fg) (qAf ?_))
 exact qEj (m := m) C.two a
theorem Cnj.at {T : Type} [Rg T] (C : Cnj m n F G f g) {a b : T} (ha : lo m 1 a) (hb : lo m 1 b) : eqv m n (ev2 n G a b) (ev1 n f (ev2 n F (ev1 n g a) (ev1 n g b))) := by
 have h2 := C.two
 have H : Hm m n (fun X => Go.Proofs.YtfpphfjlpgefaaaGreat.ev2 n X a b) := hm2 ha hb
 refine qA2 (H.eqv (nl _) C.ok) (qA2 (qHQ H f _) (qC2 f ?_))
 have e := hm_ev2 H F (onx g) (ony g)
 rw [qPy Oo, qMA Oo] at e
 exact e
theorem Cnj.lw (C : Cnj m n F G f g) (L : Lw m n F) (h0 : G 0 0 = 0) : Lw m n G := by
 have h2 := C.two
 have l2 : ∀ {T : Type} [Rg T] {a b : T}, lo m 1 a → lo m 1 b → lo m 1 (ev2 n F a b) := fun ha hb => qGS F L.zer (nl _) ha hb
 have l2' : ∀ {T : Type} [Rg T] {a b : T}, lo m 1 a → lo m 1 b → lo m 1 (ev2 n G a b) := fun ha hb => qGS G h0 (nl _) ha hb
 have cg : ∀ {T : Type} [Rg T] {a b a' b' : T}, lo m 1 a → lo m 1 b → eqv m n a a' → eqv m n b b' → eqv m n (ev2 n F a b) (ev2 n F a' b') := fun ha hb ea eb => qFP ha hb (nl _) (fun _ _ _ => rfl) ea eb
 have lx := qCP m
 have ly := qCW m
 refine qL0 h2 h0 ?_ ?_ ?_
 ·have h1 := C.at (lo_x m) (lo_zz m 1 : lo m 1 (zz : Nat → Int))
  have gz : eqv m n (ev1 n g (zz : Nat → Int)) zz := qLn (by
   have := C.lg 0; rcases this with h | h
   ·omega
   ·exact Int.emod_eq_zero_of_dvd h)
  have e1 := qA2 (cg (qBa (n := n) C.lg Oo (lo_x m)) (qBa (n := n) C.lg Oo (lo_zz m 1 : lo m 1 (zz : Nat → Int))) qAY gz) (ev2_zz L _); have e2 := qA2 h1 (qA2 (qC2 f e1) (C.forth (lo_x m)))
  have e3 : ev2 n G xS zz = ev1 n (fun i => G i 0) xS := by
   rw [qBJ]; unfold ev1 ex; refine qAC fun i _ => ?_
   obtain ⟨k, rfl⟩ : ∃ k, n = k + 1 := ⟨n - 1, Oo⟩; rw [qAn, qBI (n := k) fun j _ => by rw [qI5, ml_zz, ml_zz], ad_zz]
   show ml _ (ml _ oo) = _
   rw [ml_oo]
  rw [e3] at e2; have e4 := qA2 (qAQ (ev1_x (fun i => G i 0))) e2; intro i hi; exact qBP.1 e4 i hi
 ·have a1 := C.at ly lx; have a2 := C.at lx ly; have e := qA2 (qAQ (qDr G)) (qA2 a2 (qA2 (qC2 f (qHz L (qBa C.lg Oo lx) (qBa C.lg Oo ly))) (qA2 (qAQ a1) (qKC G)))); exact fun i j hij => qAJ.1 e i j hij
 ·have lX : lo m 1 X3 := qHl m; have lY : lo m 1 Y3 := qF4 (qCP m); have lZ : lo m 1 Z3 := qF4 (qCW m); have gX := qBa (n := n) C.lg Oo lX; have gY := qBa (n := n) C.lg Oo lY; have gZ := qBa (n := n) C.lg Oo lZ; have b1 : eqv m n (ev1 n g (ev2 n G X3 Y3)) (ev2 n F (ev1 n g X3) (ev1 n g Y3)) := qA2 (qC2 g (C.at lX lY)) (C.back (l2 gX gY)); have b2 : eqv m n (ev1 n g (ev2 n G Y3 Z3)) (ev2 n F (ev1 n g Y3) (ev1 n g Z3)) := qA2 (qC2 g (C.at lY lZ)) (C.back (l2 gY gZ)); have a1 := qA2 (C.at (l2' lX lY) lZ) (qC2 f (cg (qBa C.lg Oo (l2' lX lY)) gZ b1 qAY)); have a2 := qA2 (C.at lX (l2' lY lZ)) (qC2 f (cg gX (qBa C.lg Oo (l2' lY lZ)) qAY b2)); exact qA2 a1 (qA2 (qC2 f (qP2 L gX gY gZ)) (qAQ a2))
theorem Cnj.hom {T : Type} [Rg T] (C : Cnj m n F G f g) (L : Lw m n F) {a b : T} (ha : lo m 1 a) (hb : lo m 1 b) : eqv m n (ev2 n G (ev1 n f a) (ev1 n f b)) (ev1 n f (ev2 n F a b)) := by
 have h2 := C.two
 refine qA2 (C.at (qBa C.lf Oo ha) (qBa C.lf Oo hb)) (qC2 f ?_)
 exact qFP (qBa C.lg Oo (qBa C.lf Oo ha)) (qBa C.lg Oo (qBa C.lf Oo hb)) (nl _) (fun _ _ _ => rfl) (C.back ha) (C.back hb)
theorem Cnj.low (C : Cnj m n F G f g) (L : Lw m n F) (h0 : G 0 0 = 0) {k : Nat} {b : Int} (hk : 2 ≤ k) (hkn : k + 1 ≤ n) (hf : eqv m n f (ad xS (mon k b))) :
  eqv m (k + 1) (ad G (ad (ml (ic b) (pw xP k)) (ml (ic b) (pw yP k)))) (ad F (ml (ic b) (pw (ad xP yP) k))) := by
 have h2 := C.two
 have LG := C.lw L h0
 have lx := qCP m
 have ly := qCW m
 have mono : ∀ (X : Nat → Nat → Int), lo m 1 X → eqv m n (Go.Proofs.YtfpphfjlpgefaaaGreat.ev1 n f X) (ad X (ml (ic b) (pw X k))) := by
  intro X hX; refine qA2 (qED hX (nl _) hf) (qAf ?_); have H : Hm m n (fun u => Go.Proofs.YtfpphfjlpgefaaaGreat.ev1 n u X) := hm1 hX; rw [H.ad, qEj (m := m) h2]
  congr 1
  unfold Go.Proofs.YtfpphfjlpgefaaaGreat.ev1 ex mon; exact qHt Oo b (fun i => pw X i)
 have e := C.hom L lx ly
 have l1 : eqv m (k + 1) (ev2 n G (Go.Proofs.YtfpphfjlpgefaaaGreat.ev1 n f xP) (Go.Proofs.YtfpphfjlpgefaaaGreat.ev1 n f yP)) (ad G (ad (ml (ic b) (pw xP k)) (ml (ic b) (pw yP k)))) := by
  have lk : ∀ X : Nat → Nat → Int, lo m 1 X → lo m k (ml (ic b) (pw X k)) := fun X hX => qBC _ (qAu hX k)
  have s1 : eqv m n (ev2 n G (Go.Proofs.YtfpphfjlpgefaaaGreat.ev1 n f xP) (Go.Proofs.YtfpphfjlpgefaaaGreat.ev1 n f yP)) (ev2 n G (ad xP (ml (ic b) (pw xP k))) (ad yP (ml (ic b) (pw yP k)))) :=
   qFP (qBa C.lf Oo lx) (qBa C.lf Oo ly) (nl _) (fun _ _ _ => rfl) (mono _ lx) (mono _ ly)
  have lxx : lo m 1 (ad xP (ml (ic b) (pw xP k))) := lo_ad lx (lo_le (lk _ lx) Oo); have s2 := qJf LG lxx ly (lk _ ly) Oo hkn (Nat.le_refl (k + 1)); have s3 := qHz LG lxx ly; have s4 := qJf LG ly lx (lk _ lx) Oo hkn (Nat.le_refl (k + 1)); have s5 := qA2 (qHz LG ly lx) (qDr G); refine qA2 (qBe s1 hkn) (qA2 s2 ?_); refine qA2 (qAM (qA2 (qBe s3 hkn) (qA2 s4 (qAM (qBe s5 hkn) qAY))) qAY) (qAf ?_); exact ad_assoc _ _ _
 have l3 : eqv m (k + 1) (Go.Proofs.YtfpphfjlpgefaaaGreat.ev1 n f (ev2 n F xP yP)) (ad F (ml (ic b) (pw (ad xP yP) k))) := by
  refine qA2 (qBe (qC2 f (qDr F)) hkn) (qA2 (qBe (mono F (qFI L)) hkn) ?_); exact qAM qAY (qBh _ (qGR (qFI L) (qFx m) (qFM L) k))
 exact qA2 (qAQ l1) (qA2 (qBe e hkn) l3)
end cnj
end
section

def axF (xs : Li) (k : Int) (i p q : Nat) : Int := if k = 0 then (if q = 0 ∧ p < i then at0 xs p else 0) else (if p = 0 ∧ q < i then at0 xs q else 0)
def qCo (n : Nat) (xs : Li) (k : Int) (i : Nat) : Tb := tri n (axF xs k i)
theorem qHS (n : Nat) (xs : Li) (k : Int) : qAb n = qCo n xs k 0 := qAE fun i j _ => by
 unfold axF; split <;> rw [if_neg Oo]
theorem qHN {n : Nat} {xs : Li} {k : Int} : qCo n xs k n = axT n xs k := qAE fun i j h => by
 unfold axF
 by_cases hk : k = 0
 ·rw [if_pos hk, if_pos hk]
  by_cases hj : j = 0
  ·rw [if_pos hj, if_pos ⟨hj, Oo⟩]
  ·rw [if_neg hj, if_neg Oo]
 ·rw [if_neg hk, if_neg hk]
  by_cases hi : i = 0
  ·rw [if_pos hi, if_pos ⟨hi, Oo⟩]
  ·rw [if_neg hi, if_neg Oo]
theorem qHn {n : Nat} {xs : Li} {k : Int} {i p : Nat} (h : p < n) : (qCo n xs k i)[p]? = some (mk (n - p) (axF xs k i p)) := qAp h
theorem qIa {n : Nat} {xs : Li} {i : Nat} (h : i < n) : (qCo n xs 0 i).set i ((mk (n - i) (axF xs 0 i i)).set 0 (at0 xs i)) = qCo n xs 0 (i + 1) := by
 unfold qCo
 rw [qBp Oo]
 refine qAE fun a b _ => ?_
 unfold axF
 rw [if_pos rfl, if_pos rfl]
 by_cases hab : a = i ∧ b = 0
 ·rw [if_pos hab, if_pos Oo, hab.1]
 ·rw [if_neg hab]
  by_cases h2 : b = 0 ∧ a < i
  ·rw [if_pos h2, if_pos Oo]
  ·rw [if_neg h2, if_neg Oo]
theorem qOi {n : Nat} {xs : Li} {i : Nat} (h : i < n) : (qCo n xs 1 i).set 0 ((mk (n - 0) (axF xs 1 i 0)).set i (at0 xs i)) = qCo n xs 1 (i + 1) := by
 unfold qCo
 rw [qBp Oo]
 refine qAE fun a b _ => ?_
 unfold axF
 simp only [show ((1 : Int) = 0) = False by simp, if_false]
 by_cases hab : a = 0 ∧ b = i
 ·rw [if_pos hab, if_pos Oo, hab.2]
 ·rw [if_neg hab]
  by_cases h2 : a = 0 ∧ b < i
  ·rw [if_pos h2, if_pos Oo]
  ·rw [if_neg h2, if_neg Oo]

theorem qQE (m : Int) (n : Nat) (v : Value) (xs : Li) (w : World) (hv : RdI w v xs) (hl : xs.length = n) (h1 : 1 ≤ n) (hn : n ≤ 1000) :
  Calls Tryz.prog 192 #[.agg #[.int .i64 m, v], .int .i64 0] w fun e w' => qC9 w w' m (axT n xs 0) e := by
 subst hl
 obtain ⟨o, c, rfl, hmx, -⟩ := id hv
 have hml := hmx.1
 unfold maxLen at hmx
 obtain ⟨bx, fx, rfl, -⟩ := hv.cells Oo
 go_enter Tryz.func192, Tryz.ntmps192
 go_wp2_with fail
 (obtain ⟨w0, hw0⟩ : ∃ W : World, W = ((w.alloc (.cells #[.int .i64 m, .slice (some ⟨bx, fx, none⟩) xs.length c] 34)).alloc (.cells #[.int .i64 0, .slice none 0 0] 26)) := ⟨_, rfl⟩; have X0 := (RB2.mk1 w  (.int .i64 m) (.slice (some ⟨bx, fx, none⟩) xs.length c) 34).1.below (w' := w0) (bV hw0) (nl _); have R0 := (RB2.mk2 w (.cells #[.int .i64 m, .slice (some ⟨bx, fx, none⟩) xs.length c] 34) (.int .i64 0) (.slice none 0 0) 26).below (w' := w0) (bV hw0) (nl _); have B0 : Below w.heap.size w w0 := (bV hw0); have hv0 := hv.below (w' := w0) (bV hw0) (nl _); rw [← hw0]; clear hw0)
 have hzl : w.heap.size + 1 < w0.heap.size := R0.1.lt
 go_cut [5] (fun sb u => ∃ (wz : World) (b : Nat) (oz : Option Addr) (cz : Nat), wz = u ∧ sb = .pointer (some ⟨b, 0, none⟩) ∧ w0.heap.size ≤ b ∧ RB2 u b (.int .i64 m) (.slice oz xs.length cz) ∧ (∃ lo hi, OwSR lo hi u (.slice oz xs.length cz) (qAb xs.length) ∧ w0.heap.size ≤ lo ∧ (b < lo ∨ hi ≤ b) ∧ hi ≤ u.heap.size) ∧ True ∧ Below w0.heap.size w0 u)
 case first =>
  have hd0 : Below w0.heap.size w0 w0.drew := (Below.refl _ _).drew; have hsd0 := hd0.size; have hlb_X0 := X0.lt; obtain ⟨q0_X0_0, q0_X0_1⟩ := X0.below (Below.refl w0.heap.size w0) (nl _); have hne0_X0 : w0.heap.size ≠ w.heap.size := Oo
  go_region_held3 (fun w' => w'.cell? ⟨w.heap.size, 0, none⟩ = some (.int .i64 m) ∧ w'.cell? ⟨w.heap.size, 1, none⟩ = some (.slice (some ⟨bx, fx, none⟩) xs.length c)) (go_keep)
   (first
    | (go_at_call 128; refine (qCb m _ xs.length c _ hml).mono ?_; rintro e wd1 ⟨rfl, hbd1⟩; have hd1 : Below w0.heap.size w0 wd1 := (bY1 hbd1); have hsd1 := hd1.size; have hsz1_ := hbd1.size; (try simp at hsz1_); obtain ⟨q1_X0_0, q1_X0_1⟩ := X0.below hd1; have hne1_X0 : wd1.heap.size ≠ w.heap.size := Oo; (try (have RZ := RZ.below hbd1)); (try (have RZ := (show RB2 (w0.alloc (.cells #[.int .i64 0, .slice none 0 0] 26)).drew w0.heap.size (.int .i64 0) (.slice none 0 0) from RB2.mk1 w0 (.int .i64 0) (.slice none 0 0) _).below hbd1)); (try (obtain ⟨⟨z1_0, z1_1⟩, zf1⟩ := id RZ)))
    | (go_at_call 148; refine (qDy m ((xs.length : Int) - 1) xs.length _ rfl hn).mono ?_; rintro e wd2 ⟨vz2, rfl, hod2, hbd2⟩; obtain ⟨oz, cz, rfl⟩ := hod2.shapeN (n := xs.length) (qBm _); have hd2 : Below w0.heap.size w0 wd2 := (bY2 hbd1 hbd2); have hsd2 := hd2.size; have hsz2_ := hbd2.size; (try simp at hsz2_); obtain ⟨q2_X0_0, q2_X0_1⟩ := X0.below hd2; have hne2_X0 : wd2.heap.size ≠ w.heap.size := Oo; (try (have RZ := RZ.below hbd2)); (try (have RZ := (show RB2 (wd1.alloc (.cells #[.int .i64 0, .slice none 0 0] 26)) wd1.heap.size (.int .i64 0) (.slice none 0 0) from RB2.mk1 wd1 (.int .i64 0) (.slice none 0 0) _).below hbd2)); (try (obtain ⟨⟨z2_0, z2_1⟩, zf2⟩ := id RZ))))
  all_goals
   go_wp2_with fail
   go_meet
   refine ⟨_, _, oz, cz, rfl, rfl, ?_, ?_, ?_, ?_, ?_⟩
   ·first | omega | (simp; done) | (simp; omega)
   ·first | exact RB2.mk1 _ _ _ _ | exact RB2.put RZ _ _
   ·first | exact ⟨_, _, hod2.ra _, sz, .inr (nl _), sz⟩ | exact ⟨_, _, hod2.rp2 sz _ _, sz, .inl sz, sz⟩
   ·trivial
   ·(repeat (first | exact bR _ _ | (refine bS ?_ _) | (refine bA ?_ _) | (refine bN ?_ _) | (refine bD ?_) | (refine bT ?_ hbd1) | (refine bT ?_ hbd2)))
 case rest =>
 obtain ⟨w1, b, oz, cz, rfl, rfl, hbW, O, how, hneb, hb⟩ := hcut
 (have X1 := X0.below hb; have R1 := R0.below hb; have hv1 := hv0.below hb; have B1 := B0.trans (hb.mono B0.size))
 obtain ⟨lo, hi, how, hlo, hbo, hhi⟩ := how
 obtain ⟨us, how⟩ := how.named
 obtain ⟨g, rfl, hgl, hgl'⟩ := how.row h1
 rw [qHS xs.length xs 0] at how
 have B1s := B1.size
 have hlB : w.heap.size + 1 < lo := Oo
 obtain ⟨x0, x1⟩ := id X1
 go_wp2_with fail
 clear x0 x1
 go_loopw [16] (fun s wr => ∃ i : Nat, i ≤ xs.length ∧ s = .int .i64 i ∧ OwSU us lo hi wr (.slice (some ⟨g, 0, none⟩) xs.length cz) (qCo xs.length xs 0 i) ∧ Chg lo hi w1 wr) (fun i _ => xs.length - (intOf i).toNat)
 case atStart => exact ⟨0, Nat.zero_le _, rfl, how, Chg.refl _ _ _⟩
 case round =>
  obtain ⟨i, hi', rfl, hO, hC⟩ := hrel; have Br := hC.below B1 Oo B1s; obtain ⟨⟨z0, z1⟩, zf⟩ := O.chg hC hbo
  by_cases hlt : i < xs.length
  ·have cx := (hv.below Br).cell0 (qA5 hlt); obtain ⟨o3, c3, hu3, cx3, how3, hbl3, hset3⟩ := hO.at (qHn (p := i) (show i < xs.length by omega)); rw [qA8] at hu3 cx3 how3 hbl3 hset3; obtain ⟨gr, rfl, hgr1, hgr2⟩ := how3.row Oo; have hgr3 := hbl3 gr rfl; have hc0 := how3.cell (k := 0) (qAy (show 0 < xs.length - i by omega)); have hf0 := how3.fz 0; have hN := dd how3; have hS := dd hset3; have HSET := dd (qIa (xs := xs) hlt); clear how3 hset3 hbl3 hu3; have i0 : (0 : Int) ≤ (i : Int) := Oo; have i1 : (i : Int) < (xs.length : Int) := Oo; have i2 : (0 : Int) < (xs.length : Int) := Oo; have i3 : 0 < xs.length := Oo; have i4 : (0 : Int) < ((xs.length - i : Nat) : Int) := Oo; have i5 : 0 < xs.length - i := Oo; have i6 : (i : Int) < ((xs.length - 0 : Nat) : Int) := Oo; have hg0 := qAw (World.grownBy.refl wr (some gr)) 0 (.int .i64 (at0 xs i)); have hOn := hS.out _ _ (by rw [List.length_set, qA8]) hg0 (hN.out.put 0 (at0 xs i)); rw [HSET.out] at hOn; have hCn := hC.grown hg0 hgr3.1 hgr3.2.1; have HON := dd hOn; have HCN := dd hCn; clear hOn hCn hg0; go_wp2; exact ⟨⟨i + 1, Oo, by go_num, HON.out, HCN.out⟩, by simp [intOf]; omega⟩
  ·obtain rfl : i = xs.length := Oo; rw [qHN] at hO; obtain ⟨⟨r0, r1⟩, rf⟩ := R1.chg hC (.inl hlB); go_wp2; refine bodyPost_ret (v := .agg #[.int .i64 m, .slice (some ⟨g, 0, none⟩) xs.length cz]) (by simp [results, Tryz.results192, go_sem, r0, r1]) rfl ⟨_, rfl, ?_, ?_⟩
   ·exact ((hO.r.ow.low hlB _).low hlB _).mono Oo
   ·(repeat (first | exact bR _ _ | (refine bS ?_ _) | (refine bA ?_ _) | (refine bN ?_ _) | (refine bD ?_) | (refine bT ?_ Br)))
theorem qQh (m : Int) (n : Nat) (v : Value) (xs : Li) (w : World) (hv : RdI w v xs) (hl : xs.length = n) (h1 : 1 ≤ n) (hn : n ≤ 1000) :
  Calls Tryz.prog 192 #[.agg #[.int .i64 m, v], .int .i64 1] w fun e w' => qC9 w w' m (axT n xs 1) e := by
 subst hl
 obtain ⟨o, c, rfl, hmx, -⟩ := id hv
 have hml := hmx.1
 unfold maxLen at hmx
 obtain ⟨bx, fx, rfl, -⟩ := hv.cells Oo
 go_enter Tryz.func192, Tryz.ntmps192
 go_wp2_with fail
 (obtain ⟨w0, hw0⟩ : ∃ W : World, W = ((w.alloc (.cells #[.int .i64 m, .slice (some ⟨bx, fx, none⟩) xs.length c] 34)).alloc (.cells #[.int .i64 0, .slice none 0 0] 26)) := ⟨_, rfl⟩; have X0 := (RB2.mk1 w  (.int .i64 m) (.slice (some ⟨bx, fx, none⟩) xs.length c) 34).1.below (w' := w0) (bV hw0) (nl _); have R0 := (RB2.mk2 w (.cells #[.int .i64 m, .slice (some ⟨bx, fx, none⟩) xs.length c] 34) (.int .i64 0) (.slice none 0 0) 26).below (w' := w0) (bV hw0) (nl _); have B0 : Below w.heap.size w w0 := (bV hw0); have hv0 := hv.below (w' := w0) (bV hw0) (nl _); rw [← hw0]; clear hw0)
 have hzl : w.heap.size + 1 < w0.heap.size := R0.1.lt
 go_cut [5] (fun sb u => ∃ (wz : World) (b : Nat) (oz : Option Addr) (cz : Nat), wz = u ∧ sb = .pointer (some ⟨b, 0, none⟩) ∧ w0.heap.size ≤ b ∧ RB2 u b (.int .i64 m) (.slice oz xs.length cz) ∧ (∃ lo hi, OwSR lo hi u (.slice oz xs.length cz) (qAb xs.length) ∧ w0.heap.size ≤ lo ∧ (b < lo ∨ hi ≤ b) ∧ hi ≤ u.heap.size) ∧ True ∧ Below w0.heap.size w0 u)
 case first =>
  have hd0 : Below w0.heap.size w0 w0.drew := (Below.refl _ _).drew; have hsd0 := hd0.size; have hlb_X0 := X0.lt; obtain ⟨q0_X0_0, q0_X0_1⟩ := X0.below (Below.refl w0.heap.size w0) (nl _); have hne0_X0 : w0.heap.size ≠ w.heap.size := Oo
  go_region_held3 (fun w' => w'.cell? ⟨w.heap.size, 0, none⟩ = some (.int .i64 m) ∧ w'.cell? ⟨w.heap.size, 1, none⟩ = some (.slice (some ⟨bx, fx, none⟩) xs.length c)) (go_keep)
   (first
    | (go_at_call 128; refine (qCb m _ xs.length c _ hml).mono ?_; rintro e wd1 ⟨rfl, hbd1⟩; have hd1 : Below w0.heap.size w0 wd1 := (bY1 hbd1); have hsd1 := hd1.size; have hsz1_ := hbd1.size; (try simp at hsz1_); obtain ⟨q1_X0_0, q1_X0_1⟩ := X0.below hd1; have hne1_X0 : wd1.heap.size ≠ w.heap.size := Oo; (try (have RZ := RZ.below hbd1)); (try (have RZ := (show RB2 (w0.alloc (.cells #[.int .i64 0, .slice none 0 0] 26)).drew w0.heap.size (.int .i64 0) (.slice none 0 0) from RB2.mk1 w0 (.int .i64 0) (.slice none 0 0) _).below hbd1)); (try (obtain ⟨⟨z1_0, z1_1⟩, zf1⟩ := id RZ)))
    | (go_at_call 148; refine (qDy m ((xs.length : Int) - 1) xs.length _ rfl hn).mono ?_; rintro e wd2 ⟨vz2, rfl, hod2, hbd2⟩; obtain ⟨oz, cz, rfl⟩ := hod2.shapeN (n := xs.length) (qBm _); have hd2 : Below w0.heap.size w0 wd2 := (bY2 hbd1 hbd2); have hsd2 := hd2.size; have hsz2_ := hbd2.size; (try simp at hsz2_); obtain ⟨q2_X0_0, q2_X0_1⟩ := X0.below hd2; have hne2_X0 : wd2.heap.size ≠ w.heap.size := Oo; (try (have RZ := RZ.below hbd2)); (try (have RZ := (show RB2 (wd1.alloc (.cells #[.int .i64 0, .slice none 0 0] 26)) wd1.heap.size (.int .i64 0) (.slice none 0 0) from RB2.mk1 wd1 (.int .i64 0) (.slice none 0 0) _).below hbd2)); (try (obtain ⟨⟨z2_0, z2_1⟩, zf2⟩ := id RZ))))
  all_goals
   go_wp2_with fail
   go_meet
   refine ⟨_, _, oz, cz, rfl, rfl, ?_, ?_, ?_, ?_, ?_⟩
   ·first | omega | (simp; done) | (simp; omega)
   ·first | exact RB2.mk1 _ _ _ _ | exact RB2.put RZ _ _
   ·first | exact ⟨_, _, hod2.ra _, sz, .inr (nl _), sz⟩ | exact ⟨_, _, hod2.rp2 sz _ _, sz, .inl sz, sz⟩
   ·trivial
   ·(repeat (first | exact bR _ _ | (refine bS ?_ _) | (refine bA ?_ _) | (refine bN ?_ _) | (refine bD ?_) | (refine bT ?_ hbd1) | (refine bT ?_ hbd2)))
 case rest =>
 obtain ⟨w1, b, oz, cz, rfl, rfl, hbW, O, how, hneb, hb⟩ := hcut
 (have X1 := X0.below hb; have R1 := R0.below hb; have hv1 := hv0.below hb; have B1 := B0.trans (hb.mono B0.size))
 obtain ⟨lo, hi, how, hlo, hbo, hhi⟩ := how
 obtain ⟨us, how⟩ := how.named
 obtain ⟨g, rfl, hgl, hgl'⟩ := how.row h1
 rw [qHS xs.length xs 1] at how
 have B1s := B1.size
 have hlB : w.heap.size + 1 < lo := Oo
 obtain ⟨x0, x1⟩ := id X1
 go_wp2_with fail
 clear x0 x1
 go_loopw [16] (fun s wr => ∃ i : Nat, i ≤ xs.length ∧ s = .int .i64 i ∧ OwSU us lo hi wr (.slice (some ⟨g, 0, none⟩) xs.length cz) (qCo xs.length xs 1 i) ∧ Chg lo hi w1 wr) (fun i _ => xs.length - (intOf i).toNat)
 case atStart => exact ⟨0, Nat.zero_le _, rfl, how, Chg.refl _ _ _⟩
 case round =>
  obtain ⟨i, hi', rfl, hO, hC⟩ := hrel; have Br := hC.below B1 Oo B1s; obtain ⟨⟨z0, z1⟩, zf⟩ := O.chg hC hbo
  by_cases hlt : i < xs.length
  ·have cx := (hv.below Br).cell0 (qA5 hlt); obtain ⟨o3, c3, hu3, cx3, how3, hbl3, hset3⟩ := hO.at (qHn (p := 0) (show 0 < xs.length by omega)); rw [qA8] at hu3 cx3 how3 hbl3 hset3; obtain ⟨gr, rfl, hgr1, hgr2⟩ := how3.row Oo; have hgr3 := hbl3 gr rfl; have hc0 := how3.cell (k := i) (qAy (show i < xs.length - 0 by omega)); have hf0 := how3.fz i; have hN := dd how3; have hS := dd hset3; have HSET := dd (qOi (xs := xs) hlt); clear how3 hset3 hbl3 hu3; have i0 : (0 : Int) ≤ (i : Int) := Oo; have i1 : (i : Int) < (xs.length : Int) := Oo; have i2 : (0 : Int) < (xs.length : Int) := Oo; have i3 : 0 < xs.length := Oo; have i4 : (0 : Int) < ((xs.length - 0 : Nat) : Int) := Oo; have i5 : 0 < xs.length - 0 := Oo; have i6 : (i : Int) < ((xs.length - 0 : Nat) : Int) := Oo; have hg0 := qAw (World.grownBy.refl wr (some gr)) i (.int .i64 (at0 xs i)); have hOn := hS.out _ _ (by rw [List.length_set, qA8]) hg0 (hN.out.put i (at0 xs i)); rw [HSET.out] at hOn; have hCn := hC.grown hg0 hgr3.1 hgr3.2.1; have HON := dd hOn; have HCN := dd hCn; clear hOn hCn hg0; go_wp2; exact ⟨⟨i + 1, Oo, by go_num, HON.out, HCN.out⟩, by simp [intOf]; omega⟩
  ·obtain rfl : i = xs.length := Oo; rw [qHN] at hO; obtain ⟨⟨r0, r1⟩, rf⟩ := R1.chg hC (.inl hlB); go_wp2; refine bodyPost_ret (v := .agg #[.int .i64 m, .slice (some ⟨g, 0, none⟩) xs.length cz]) (by simp [results, Tryz.results192, go_sem, r0, r1]) rfl ⟨_, rfl, ?_, ?_⟩
   ·exact ((hO.r.ow.low hlB _).low hlB _).mono Oo
   ·(repeat (first | exact bR _ _ | (refine bS ?_ _) | (refine bA ?_ _) | (refine bN ?_ _) | (refine bD ?_) | (refine bT ?_ Br)))

end
end Go.Proofs.YtfpphfjlpgefaaaGreat
