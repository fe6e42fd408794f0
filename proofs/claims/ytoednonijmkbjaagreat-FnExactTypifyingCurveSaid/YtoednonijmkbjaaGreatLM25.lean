/- Lemmas. -/
import Derived.Test.YtoednonijmkbjaaGreatLM23
import Derived.Test.YtoednonijmkbjaaGreatLG5
import Derived.Test.YtoednonijmkbjaaGreatLG2
import Derived.Test.YtoednonijmkbjaaGreatLM20
import Derived.Test.YtoednonijmkbjaaGreatLG9
import Derived.Test.YtoednonijmkbjaaGreatLM17
import Derived.Test.YtoednonijmkbjaaGreatLM2
import Derived.Test.YtoednonijmkbjaaGreatLG7
import Derived.Test.YtoednonijmkbjaaGreatLG18
import Derived.Test.YtoednonijmkbjaaGreatLM22
set_option linter.unusedSimpArgs false
set_option linter.unusedVariables false
namespace Go.Proofs.YtoednonijmkbjaaGreat
open Go.RowKit

theorem typicalLaw_t (p n : Nat) (m : Int) (v : Value) (ls : List Int) (w : World) (hv : RdI w v ls) (hp : P4 p) (n1 : 1 ≤ n) (hn : n ≤ 10) (hm : 2 ≤ m) (hm' : m ≤ 10000) (hl : ls.length ≤ 3) (hx : ∀ x ∈ ls, 0 ≤ x ∧ x < m) :
    Calls Tryz.prog 56 #[.int .i64 p, .int .i64 m, .int .i64 n, v] w fun e w' => PVEnd w w' m (typT2 p m n ls) e := by
  have hp2 := hp.pos
  have hpw := (hp.pow9 (show n - 1 ≤ 10 by omega))
  have hp9 : p ^ (n - 1) ≤ 40353607 := Nat.le_trans (Nat.pow_le_pow_left hp2.2 _) (Nat.pow_le_pow_right (by omega) (show n - 1 ≤ 9 by omega))
  have hWm : m * ((p ^ (n - 1) : Nat) : Int) ≤ 10000 * 40353607 := Int.mul_le_mul (by omega) (by omega) (by omega) (by omega)
  have h := typicalLaw_c p n m v ls w hv hp n1 hn hm hm' hl (fun x hx' => ⟨(hx x hx').1, by have := (hx x hx').2; omega⟩) _ rfl (by omega)
  rw [prog_tab hp n1 hn _ (m := m) (by omega) rfl (by
    have := Int.mul_le_mul hm (show (1 : Int) ≤ ((p ^ (n - 1) : Nat) : Int) by omega) (by omega) (by omega)
    omega)] at h
  exact h
end Go.Proofs.YtoednonijmkbjaaGreat
/- The parameters of a typical law: the reference. -/
set_option linter.unusedSimpArgs false
set_option linter.unusedVariables false
namespace Go.Proofs.YtoednonijmkbjaaGreat
open Go.RowKit

theorem l09Law_t (p n : Nat) (m : Int) (v : Value) (ls : List Int) (w : World) (hv : RdI w v ls) (hp : P4 p) (n1 : 1 ≤ n) (hn : n ≤ 10) (hm : 2 ≤ m) (hm' : m ≤ 10000) (hl : ls.length ≤ 3) (hx : ∀ x ∈ ls, 0 ≤ x ∧ x < m) :
    Calls Tryz.prog 44 #[.int .i64 p, .int .i64 m, .int .i64 n, v] w fun e w' => ∃ v', e = .returned v' ∧ OwS w' w.heap.size v' (typT2 p m n ls) ∧ Below w.heap.size w w' := by
  have hp2 := hp.pos
  obtain ⟨-, k2, -, -⟩ := most_key hp hn (Nat.le_refl (mostOf p n))
  have hW2 : 2 ≤ m * ((p ^ mostOf p n : Nat) : Int) * p := by
    have hpw := (hp.pow9 (show mostOf p n ≤ 10 by omega)).1
    have h1 := Int.mul_le_mul hm (show (1 : Int) ≤ ((p ^ mostOf p n : Nat) : Int) by omega) (by omega) (by omega)
    have h2 := Int.mul_le_mul h1 (show (1 : Int) ≤ p by omega) (by omega) (by omega)
    omega
  have h := l09Law_c p n m v ls w hv hp n1 hn hm hm' hl (fun x hx' => ⟨(hx x hx').1, by have := (hx x hx').2; omega⟩) _ rfl _ rfl _ rfl
  rw [ref_tab hp n1 hn (m := m) (v := at0 (ls ++ List.replicate (3 - ls.length) (0 : Int))) (by omega) rfl hW2 (fun i hi => by rw [mk_at (by omega), mod_self_mod])] at h
  exact h
end Go.Proofs.YtoednonijmkbjaaGreat

/- Typical laws: their parameters, and whether a law is one: the functions that are called. -/
set_option linter.unusedSimpArgs false
set_option linter.unusedVariables false
namespace Go.Proofs.YtoednonijmkbjaaGreat
open Go.RowKit

def tyFor (p m : Int) (t : List (List Int)) : Int := if lawB m t = true then (if primB p = true then 0 else 2) else 1
set_option maxHeartbeats 1000000 in
theorem typicalFor_c (p m : Int) (v : Value) (t : List (List Int)) (w : World) (hv : RdT w v t) :
    Calls Tryz.prog 37 #[.int .i64 p, .agg #[.int .i64 m, v]] w fun e w' => e = .returned (.int .i64 (tyFor p m t)) ∧ Below w.heap.size w w' := by
  obtain ⟨o, c, rfl, -, -⟩ := id hv
  unfold tyFor
  cases h1 : lawB m t
  · go_enter Tryz.func37, Tryz.ntmps37
    go_wp2_with fail
    (have X0 := ((RB2.mk1 w  (.int .i64 m) (.slice o t.length c) 31).1).below (w' := (w.alloc (.cells #[.int .i64 m, .slice o t.length c] 31))) (by (repeat (first | exact bR _ _ | (refine bS ?_ _) | (refine bA ?_ _) | (refine bN ?_ _) | (refine bD ?_)))) (Nat.le_refl _); have B0 : Below w.heap.size w (w.alloc (.cells #[.int .i64 m, .slice o t.length c] 31)) := (by (repeat (first | exact bR _ _ | (refine bS ?_ _) | (refine bA ?_ _) | (refine bN ?_ _) | (refine bD ?_)))); have hv0 := hv.below (w' := (w.alloc (.cells #[.int .i64 m, .slice o t.length c] 31))) (by (repeat (first | exact bR _ _ | (refine bS ?_ _) | (refine bA ?_ _) | (refine bN ?_ _) | (refine bD ?_)))) (Nat.le_refl _); generalize w.alloc (.cells #[.int .i64 m, .slice o t.length c] 31) = w0 at X0 B0 hv0 ⊢)
    (obtain ⟨gqX0, gqX1⟩ := id X0; go_wp2_with fail; refine (IsLaw_c m _ t _ hv0).mono ?_; rw [h1]; rintro e w1 ⟨rfl, hb⟩; (have X1 := X0.below hb (Nat.le_refl _); have hv1 := hv0.below hb (Nat.le_refl _); have B1 := B0.trans (hb.mono B0.size)); clear gqX0 gqX1; clear hb)
    go_wp2
    go_ret
    exact ⟨rfl, B1⟩
  · cases h2 : primB p
    all_goals
      go_enter Tryz.func37, Tryz.ntmps37
      go_wp2_with fail
      (have X0 := ((RB2.mk1 w  (.int .i64 m) (.slice o t.length c) 31).1).below (w' := (w.alloc (.cells #[.int .i64 m, .slice o t.length c] 31))) (by (repeat (first | exact bR _ _ | (refine bS ?_ _) | (refine bA ?_ _) | (refine bN ?_ _) | (refine bD ?_)))) (Nat.le_refl _); have B0 : Below w.heap.size w (w.alloc (.cells #[.int .i64 m, .slice o t.length c] 31)) := (by (repeat (first | exact bR _ _ | (refine bS ?_ _) | (refine bA ?_ _) | (refine bN ?_ _) | (refine bD ?_)))); have hv0 := hv.below (w' := (w.alloc (.cells #[.int .i64 m, .slice o t.length c] 31))) (by (repeat (first | exact bR _ _ | (refine bS ?_ _) | (refine bA ?_ _) | (refine bN ?_ _) | (refine bD ?_)))) (Nat.le_refl _); generalize w.alloc (.cells #[.int .i64 m, .slice o t.length c] 31) = w0 at X0 B0 hv0 ⊢)
      (obtain ⟨gqX0, gqX1⟩ := id X0; go_wp2_with fail; refine (IsLaw_c m _ t _ hv0).mono ?_; rw [h1]; rintro e w1 ⟨rfl, hb⟩; (have X1 := X0.below hb (Nat.le_refl _); have hv1 := hv0.below hb (Nat.le_refl _); have B1 := B0.trans (hb.mono B0.size)); clear gqX0 gqX1; clear hb)
      go_wp2_with (go_at_call 72; refine (isTypicalPrime_c _ _).mono ?_; rw [h2]; rintro e w' ⟨rfl, rfl⟩)
      go_ret
      exact ⟨rfl, B1⟩
set_option maxHeartbeats 1000000 in
theorem l09Of_c (p m : Int) (v : Value) (t : List (List Int)) (w : World) (hv : RdT w v t) :
    Calls Tryz.prog 35 #[.int .i64 p, .agg #[.int .i64 m, v]] w fun e w' => e = .returned (.int .i64 (tyFor p m t)) ∧ Below w.heap.size w w' := by
  obtain ⟨o, c, rfl, -, -⟩ := id hv
  unfold tyFor
  cases h1 : lawB m t
  · go_enter Tryz.func35, Tryz.ntmps35
    go_wp2_with fail
    (have X0 := ((RB2.mk1 w  (.int .i64 m) (.slice o t.length c) 31).1).below (w' := (w.alloc (.cells #[.int .i64 m, .slice o t.length c] 31))) (by (repeat (first | exact bR _ _ | (refine bS ?_ _) | (refine bA ?_ _) | (refine bN ?_ _) | (refine bD ?_)))) (Nat.le_refl _); have B0 : Below w.heap.size w (w.alloc (.cells #[.int .i64 m, .slice o t.length c] 31)) := (by (repeat (first | exact bR _ _ | (refine bS ?_ _) | (refine bA ?_ _) | (refine bN ?_ _) | (refine bD ?_)))); have hv0 := hv.below (w' := (w.alloc (.cells #[.int .i64 m, .slice o t.length c] 31))) (by (repeat (first | exact bR _ _ | (refine bS ?_ _) | (refine bA ?_ _) | (refine bN ?_ _) | (refine bD ?_)))) (Nat.le_refl _); generalize w.alloc (.cells #[.int .i64 m, .slice o t.length c] 31) = w0 at X0 B0 hv0 ⊢)
    (obtain ⟨gqX0, gqX1⟩ := id X0; go_wp2_with fail; refine (l04Is_c m _ t _ hv0).mono ?_; rw [h1]; rintro e w1 ⟨rfl, hb⟩; (have X1 := X0.below hb (Nat.le_refl _); have hv1 := hv0.below hb (Nat.le_refl _); have B1 := B0.trans (hb.mono B0.size)); clear gqX0 gqX1; clear hb)
    go_wp2
    go_ret
    exact ⟨rfl, B1⟩
  · cases h2 : primB p
    all_goals
      go_enter Tryz.func35, Tryz.ntmps35
      go_wp2_with fail
      (have X0 := ((RB2.mk1 w  (.int .i64 m) (.slice o t.length c) 31).1).below (w' := (w.alloc (.cells #[.int .i64 m, .slice o t.length c] 31))) (by (repeat (first | exact bR _ _ | (refine bS ?_ _) | (refine bA ?_ _) | (refine bN ?_ _) | (refine bD ?_)))) (Nat.le_refl _); have B0 : Below w.heap.size w (w.alloc (.cells #[.int .i64 m, .slice o t.length c] 31)) := (by (repeat (first | exact bR _ _ | (refine bS ?_ _) | (refine bA ?_ _) | (refine bN ?_ _) | (refine bD ?_)))); have hv0 := hv.below (w' := (w.alloc (.cells #[.int .i64 m, .slice o t.length c] 31))) (by (repeat (first | exact bR _ _ | (refine bS ?_ _) | (refine bA ?_ _) | (refine bN ?_ _) | (refine bD ?_)))) (Nat.le_refl _); generalize w.alloc (.cells #[.int .i64 m, .slice o t.length c] 31) = w0 at X0 B0 hv0 ⊢)
      (obtain ⟨gqX0, gqX1⟩ := id X0; go_wp2_with fail; refine (l04Is_c m _ t _ hv0).mono ?_; rw [h1]; rintro e w1 ⟨rfl, hb⟩; (have X1 := X0.below hb (Nat.le_refl _); have hv1 := hv0.below hb (Nat.le_refl _); have B1 := B0.trans (hb.mono B0.size)); clear gqX0 gqX1; clear hb)
      go_wp2_with (go_at_call 66; refine (l09Prime_c _ _).mono ?_; rw [h2]; rintro e w' ⟨rfl, rfl⟩)
      go_ret
      exact ⟨rfl, B1⟩
theorem tyFor_0 {p m : Int} {t : List (List Int)} (h : tyFor p m t = 0) : lawB m t = true ∧ primB p = true := by
  unfold tyFor at h
  split at h
  · split at h
    · exact ⟨by assumption, by assumption⟩
    · omega
  · omega
structure BR where
  val : Bool
  code : Int
def typO (p m : Int) (t : List (List Int)) : Option (List Int) := parO p.toNat m t (t.length - 1)
theorem law_typ {p m : Int} {t : List (List Int)} (h : tyFor p m t = 0) : ∃ P D : Nat, p = P ∧ t.length = D + 1 ∧ P4 P ∧ 1 ≤ D ∧ D ≤ 10 ∧ 2 ≤ m ∧ m ≤ 10000 ∧ PlaT m (D + 1) t ∧ Lw m (D + 1) (atT t) ∧ typO p m t = parO P m t D ∧ typO p m t = parR P m t D := by
  obtain ⟨h1, h2⟩ := tyFor_0 h
  have hn := pla_n (lawB_t h1).1
  have hm := pla_m (lawB_t h1).1
  obtain ⟨D, hD⟩ : ∃ D, t.length = D + 1 := ⟨t.length - 1, by omega⟩
  have HT : PlaT m t.length t := ⟨rfl, pla_row (lawB_t h1).1⟩
  rw [hD] at HT
  have L : Lw m (D + 1) (atT t) := lw_of (by omega) HT (by have := (lawB_t h1).2; rwa [hD] at this)
  have hp := primB_t h2
  obtain ⟨P, rfl⟩ : ∃ P : Nat, p = P := ⟨p.toNat, by omega⟩
  have hP : P4 P := by unfold P4; omega
  have e : typO (P : Int) m t = parO P m t D := by unfold typO; rw [hD]; rfl
  exact ⟨P, D, rfl, hD, hP, by omega, by omega, hm.1, hm.2, HT, L, e, by rw [e, par_eq hP hm.1 (by omega) (by omega) L]⟩
end Go.Proofs.YtoednonijmkbjaaGreat
set_option linter.unusedSimpArgs false
set_option linter.unusedVariables false
namespace Go.Proofs.YtoednonijmkbjaaGreat
open Rg

section gen
variable {T : Type} [Rg T]
theorem ev2_onx {n : Nat} (h1 : 1 ≤ n) (f : Nat → Int) (a b : T) : ev2 n (onx f) a b = ev1 n f a := by
  rw [ev2_sum]
  unfold ev1 ex
  refine sm_congr fun i _ => ?_
  obtain ⟨r, rfl⟩ : ∃ r, n = r + 1 := ⟨n - 1, by omega⟩
  rw [sm_first, sm_none fun j _ => by show ml (ic (onx f i (j + 1))) _ = zz; rw [show onx f i (j + 1) = 0 from rfl, ic_0, zz_ml], ad_zz]
  show ml (ic (onx f i 0)) (ml (pw a i) oo) = _
  rw [ml_oo]; rfl
theorem ev2_ony {n : Nat} (h1 : 1 ≤ n) (f : Nat → Int) (a b : T) : ev2 n (ony f) a b = ev1 n f b := by
  rw [ev2_sum]
  obtain ⟨r, rfl⟩ : ∃ r, n = r + 1 := ⟨n - 1, by omega⟩
  rw [sm_first, sm_none fun i _ => sm_none fun j _ => by show ml (ic (ony f (i + 1) j)) _ = zz; rw [show ony f (i + 1) j = 0 from rfl, ic_0, zz_ml], ad_zz]
  unfold ev1 ex
  refine sm_congr fun j _ => ?_
  show ml (ic (ony f 0 j)) (ml oo (pw b j)) = _
  rw [oo_ml]; rfl
theorem lo_ev1 {m : Int} {n : Nat} {f : Nat → Int} (hf : lo m 1 f) (hn : 1 ≤ n) {a : T} (ha : lo m 1 a) : lo m 1 (ev1 n f a) := (hm1 (n := n) ha).lo 1 f hn hf
end gen
theorem hm_ev1 {S T : Type} [Rg S] [Rg T] {m : Int} {n : Nat} {φ : S → T} (H : Hm m n φ) (f : Nat → Int) (a : S) : eqv m n (φ (ev1 n f a)) (ev1 n f (φ a)) := H.of_ex (χ := fun c => ic c) (ψ := fun c => ic c) (fun c => H.ic c) a f
theorem hm_ev2 {S T : Type} [Rg S] [Rg T] {m : Int} {n : Nat} {φ : S → T} (H : Hm m n φ) (F : Nat → Nat → Int) (a b : S) : eqv m n (φ (ev2 n F a b)) (ev2 n F (φ a) (φ b)) :=
  H.of_ex (χ := ex n (fun c => ic c) b) (ψ := ex n (fun c => ic c) (φ b)) (fun x => H.of_ex (χ := fun c => ic c) (ψ := fun c => ic c) (fun c => H.ic c) b x) a F

structure Cnj (m : Int) (n : Nat) (F G : Nat → Nat → Int) (f g : Nat → Int) : Prop where
  two : 2 ≤ n
  lf : lo m 1 f
  lg : lo m 1 g
  fg : eqv m n (ev1 n f g) xS
  gf : eqv m n (ev1 n g f) xS
  ok : eqv m n G (ev1 n f (ev2 n F (onx g) (ony g)))
section cnj
variable {m : Int} {n : Nat} {F G : Nat → Nat → Int} {f g : Nat → Int}
theorem Cnj.back {T : Type} [Rg T] (C : Cnj m n F G f g) {a : T} (ha : lo m 1 a) : eqv m n (ev1 n g (ev1 n f a)) a := by
  refine eqv_trans (eqv_symm (ev1_ev1 ha g f)) (eqv_trans (ev1_f ha (Nat.le_refl _) C.gf) (eqv_of ?_))
  exact ev1_xl (m := m) C.two a
theorem Cnj.forth {T : Type} [Rg T] (C : Cnj m n F G f g) {a : T} (ha : lo m 1 a) : eqv m n (ev1 n f (ev1 n g a)) a := by
  refine eqv_trans (eqv_symm (ev1_ev1 ha f g)) (eqv_trans (ev1_f ha (Nat.le_refl _) C.fg) (eqv_of ?_))
  exact ev1_xl (m := m) C.two a
theorem Cnj.at {T : Type} [Rg T] (C : Cnj m n F G f g) {a b : T} (ha : lo m 1 a) (hb : lo m 1 b) : eqv m n (ev2 n G a b) (ev1 n f (ev2 n F (ev1 n g a) (ev1 n g b))) := by
  have h2 := C.two
  have H : Hm m n (fun X => Go.Proofs.YtoednonijmkbjaaGreat.ev2 n X a b) := hm2 ha hb
  refine eqv_trans (H.eqv (Nat.le_refl _) C.ok) (eqv_trans (hm_ev1 H f _) (ev1_a f ?_))
  have e := hm_ev2 H F (onx g) (ony g)
  rw [ev2_onx (by omega), ev2_ony (by omega)] at e
  exact e
theorem Cnj.lw (C : Cnj m n F G f g) (L : Lw m n F) (h0 : G 0 0 = 0) : Lw m n G := by
  have h2 := C.two
  have l2 : ∀ {T : Type} [Rg T] {a b : T}, lo m 1 a → lo m 1 b → lo m 1 (ev2 n F a b) := fun ha hb => ev2_lo F L.zer (Nat.le_refl _) ha hb
  have l2' : ∀ {T : Type} [Rg T] {a b : T}, lo m 1 a → lo m 1 b → lo m 1 (ev2 n G a b) := fun ha hb => ev2_lo G h0 (Nat.le_refl _) ha hb
  have cg : ∀ {T : Type} [Rg T] {a b a' b' : T}, lo m 1 a → lo m 1 b → eqv m n a a' → eqv m n b b' → eqv m n (ev2 n F a b) (ev2 n F a' b') := fun ha hb ea eb => ev2_eqv ha hb (Nat.le_refl _) (fun _ _ _ => rfl) ea eb
  have lx := lo_xP m
  have ly := lo_yP m
  refine lw_of_ev h2 h0 ?_ ?_ ?_
  · have h1 := C.at (lo_x m) (lo_zz m 1 : lo m 1 (zz : Nat → Int))
    have gz : eqv m n (ev1 n g (zz : Nat → Int)) zz := ev1_zz (by
      have := C.lg 0
      rcases this with h | h
      · omega
      · exact Int.emod_eq_zero_of_dvd h)
    have e1 := eqv_trans (cg (lo_ev1 (n := n) C.lg (by omega) (lo_x m)) (lo_ev1 (n := n) C.lg (by omega) (lo_zz m 1 : lo m 1 (zz : Nat → Int))) eqv_rfl gz) (ev2_zz L _)
    have e2 := eqv_trans h1 (eqv_trans (ev1_a f e1) (C.forth (lo_x m)))
    have e3 : ev2 n G xS zz = ev1 n (fun i => G i 0) xS := by
      rw [ev2_sum]
      unfold ev1 ex
      refine sm_congr fun i _ => ?_
      obtain ⟨k, rfl⟩ : ∃ k, n = k + 1 := ⟨n - 1, by omega⟩
      rw [sm_first, sm_none (n := k) fun j _ => by rw [pw_zz, ml_zz, ml_zz], ad_zz]
      show ml _ (ml _ oo) = _
      rw [ml_oo]
    rw [e3] at e2
    have e4 := eqv_trans (eqv_symm (ev1_x (fun i => G i 0))) e2
    intro i hi
    exact eqv1.1 e4 i hi
  · have a1 := C.at ly lx
    have a2 := C.at lx ly
    have e := eqv_trans (eqv_symm (ev2_self G)) (eqv_trans a2 (eqv_trans (ev1_a f (ev2_comm L (lo_ev1 C.lg (by omega) lx) (lo_ev1 C.lg (by omega) ly))) (eqv_trans (eqv_symm a1) (ev2_swap G))))
    exact fun i j hij => eqv2.1 e i j hij
  · have lX : lo m 1 X3 := lo_mono m
    have lY : lo m 1 Y3 := lo_cst (lo_xP m)
    have lZ : lo m 1 Z3 := lo_cst (lo_yP m)
    have gX := lo_ev1 (n := n) C.lg (by omega) lX
    have gY := lo_ev1 (n := n) C.lg (by omega) lY
    have gZ := lo_ev1 (n := n) C.lg (by omega) lZ
    have b1 : eqv m n (ev1 n g (ev2 n G X3 Y3)) (ev2 n F (ev1 n g X3) (ev1 n g Y3)) := eqv_trans (ev1_a g (C.at lX lY)) (C.back (l2 gX gY))
    have b2 : eqv m n (ev1 n g (ev2 n G Y3 Z3)) (ev2 n F (ev1 n g Y3) (ev1 n g Z3)) := eqv_trans (ev1_a g (C.at lY lZ)) (C.back (l2 gY gZ))
    have a1 := eqv_trans (C.at (l2' lX lY) lZ) (ev1_a f (cg (lo_ev1 C.lg (by omega) (l2' lX lY)) gZ b1 eqv_rfl))
    have a2 := eqv_trans (C.at lX (l2' lY lZ)) (ev1_a f (cg gX (lo_ev1 C.lg (by omega) (l2' lY lZ)) eqv_rfl b2))
    exact eqv_trans a1 (eqv_trans (ev1_a f (ev2_assoc L gX gY gZ)) (eqv_symm a2))
theorem Cnj.hom {T : Type} [Rg T] (C : Cnj m n F G f g) (L : Lw m n F) {a b : T} (ha : lo m 1 a) (hb : lo m 1 b) : eqv m n (ev2 n G (ev1 n f a) (ev1 n f b)) (ev1 n f (ev2 n F a b)) := by
  have h2 := C.two
  refine eqv_trans (C.at (lo_ev1 C.lf (by omega) ha) (lo_ev1 C.lf (by omega) hb)) (ev1_a f ?_)
  exact ev2_eqv (lo_ev1 C.lg (by omega) (lo_ev1 C.lf (by omega) ha)) (lo_ev1 C.lg (by omega) (lo_ev1 C.lf (by omega) hb)) (Nat.le_refl _) (fun _ _ _ => rfl) (C.back ha) (C.back hb)
theorem Cnj.low (C : Cnj m n F G f g) (L : Lw m n F) (h0 : G 0 0 = 0) {k : Nat} {b : Int} (hk : 2 ≤ k) (hkn : k + 1 ≤ n) (hf : eqv m n f (ad xS (mon k b))) :
    eqv m (k + 1) (ad G (ad (ml (ic b) (pw xP k)) (ml (ic b) (pw yP k)))) (ad F (ml (ic b) (pw (ad xP yP) k))) := by
  have h2 := C.two
  have LG := C.lw L h0
  have lx := lo_xP m
  have ly := lo_yP m
  have mono : ∀ (X : Nat → Nat → Int), lo m 1 X → eqv m n (Go.Proofs.YtoednonijmkbjaaGreat.ev1 n f X) (ad X (ml (ic b) (pw X k))) := by
    intro X hX
    refine eqv_trans (ev1_f hX (Nat.le_refl _) hf) (eqv_of ?_)
    have H : Hm m n (fun u => Go.Proofs.YtoednonijmkbjaaGreat.ev1 n u X) := hm1 hX
    rw [H.ad, ev1_xl (m := m) h2]
    congr 1
    unfold Go.Proofs.YtoednonijmkbjaaGreat.ev1 ex mon
    exact sum_at (by omega) b (fun i => pw X i)
  have e := C.hom L lx ly
  have l1 : eqv m (k + 1) (ev2 n G (Go.Proofs.YtoednonijmkbjaaGreat.ev1 n f xP) (Go.Proofs.YtoednonijmkbjaaGreat.ev1 n f yP)) (ad G (ad (ml (ic b) (pw xP k)) (ml (ic b) (pw yP k)))) := by
    have lk : ∀ X : Nat → Nat → Int, lo m 1 X → lo m k (ml (ic b) (pw X k)) := fun X hX => lo_mul _ (pw_lo hX k)
    have s1 : eqv m n (ev2 n G (Go.Proofs.YtoednonijmkbjaaGreat.ev1 n f xP) (Go.Proofs.YtoednonijmkbjaaGreat.ev1 n f yP)) (ev2 n G (ad xP (ml (ic b) (pw xP k))) (ad yP (ml (ic b) (pw yP k)))) :=
      ev2_eqv (lo_ev1 C.lf (by omega) lx) (lo_ev1 C.lf (by omega) ly) (Nat.le_refl _) (fun _ _ _ => rfl) (mono _ lx) (mono _ ly)
    have lxx : lo m 1 (ad xP (ml (ic b) (pw xP k))) := lo_ad lx (lo_le (lk _ lx) (by omega))
    have s2 := ev2_late LG lxx ly (lk _ ly) (by omega) hkn (Nat.le_refl (k + 1))
    have s3 := ev2_comm LG lxx ly
    have s4 := ev2_late LG ly lx (lk _ lx) (by omega) hkn (Nat.le_refl (k + 1))
    have s5 := eqv_trans (ev2_comm LG ly lx) (ev2_self G)
    refine eqv_trans (eqv_le s1 hkn) (eqv_trans s2 ?_)
    refine eqv_trans (eqv_ad (eqv_trans (eqv_le s3 hkn) (eqv_trans s4 (eqv_ad (eqv_le s5 hkn) eqv_rfl))) eqv_rfl) (eqv_of ?_)
    exact ad_assoc _ _ _
  have l3 : eqv m (k + 1) (Go.Proofs.YtoednonijmkbjaaGreat.ev1 n f (ev2 n F xP yP)) (ad F (ml (ic b) (pw (ad xP yP) k))) := by
    refine eqv_trans (eqv_le (ev1_a f (ev2_self F)) hkn) (eqv_trans (eqv_le (mono F (lo_law L)) hkn) ?_)
    exact eqv_ad eqv_rfl (eqv_mll _ (pw_up1 (lo_law L) (lo_xy m) (law_xy L) k))
  exact eqv_trans (eqv_symm l1) (eqv_trans (eqv_le e hkn) l3)
end cnj
end Go.Proofs.YtoednonijmkbjaaGreat
set_option linter.unusedSimpArgs false
set_option linter.unusedVariables false
namespace Go.Proofs.YtoednonijmkbjaaGreat
open Go.RowKit
open Rg

theorem lam_p {p r : Nat} (hp : P4 p) (h : p ^ (r + 1) ≤ 10) : lam (p ^ (r + 1)) = p ∧ r ≤ 2 := by
  have hp2 := hp.pos
  have hg := pow_gt hp2.1 (r + 1)
  have hr : r ≤ 2 := by
    refine Nat.le_of_not_lt fun hlt => ?_
    have h1 := Nat.pow_le_pow_left hp2.1 (r + 1)
    have h2 := Nat.pow_le_pow_right (n := 2) (by omega) (show 4 ≤ r + 1 by omega)
    omega
  refine ⟨?_, hr⟩
  obtain rfl | rfl | rfl : r = 0 ∨ r = 1 ∨ r = 2 := by omega
  all_goals
    rcases hp with rfl | rfl | rfl | rfl
    all_goals first | rfl | (exfalso; revert h; decide)
theorem bin_laz {n i : Nat} (h2 : 2 ≤ n) (hn : n ≤ 10) (h1 : 1 ≤ i) (hi : i < n) : bin n i = lam n * laz n i := by
  have h : ∀ n : Fin 11, ∀ i : Fin 11, 2 ≤ n.1 → 1 ≤ i.1 → i.1 < n.1 → bin n.1 i.1 = lam n.1 * laz n.1 i.1 := by decide
  exact h ⟨n, by omega⟩ ⟨i, by omega⟩ h2 h1 hi
theorem xy_at {n i : Nat} (h2 : 1 ≤ n) (hi : i ≤ n) : (pw xP n : Nat → Nat → Int) i (n - i) = (if i = n then 1 else 0) ∧ (pw yP n : Nat → Nat → Int) i (n - i) = (if i = 0 then 1 else 0) := by
  rw [show pw xP n = onx (pw xS n) from (onx_pw _ _).symm, show pw yP n = ony (pw xS n) from (ony_pw _ _).symm, pw_xS]
  unfold onx ony mon
  constructor
  · by_cases h : i = n
    · rw [if_pos h, if_pos (by omega)]
    · rw [if_neg h, if_neg (by omega)]
  · by_cases h : i = 0
    · rw [if_pos h, if_pos (by omega), if_pos h]
    · rw [if_neg h, if_neg h]
theorem num_last {p r : Nat} {v v' : Nat → Int} {c : Int} (h : ∀ i, i < r → v i = v' i) (hr : v' r = v r + c) : num p v' (r + 1) = num p v (r + 1) + (p : Int) ^ r * c := by
  rw [num_succ, num_succ, sumN_first, sumN_first]
  have e : sumN r (fun i => (p : Int) ^ (r - (i + 1)) * num p v' (i + 1) * v' (r - (i + 1)) ^ (p ^ (i + 1))) = sumN r (fun i => (p : Int) ^ (r - (i + 1)) * num p v (i + 1) * v (r - (i + 1)) ^ (p ^ (i + 1))) :=
    sumN_congr fun i hi => by rw [num_congr (i + 1) (fun j hj => (h j (by omega)).symm), h (r - (i + 1)) (by omega)]
  rw [e]
  simp only [Nat.sub_zero, num_0, Int.mul_one, Nat.pow_zero, ipow1]
  rw [hr, Int.mul_add]
  omega
theorem tyLaw_par {p D r : Nat} (hp : P4 p) (hD : D ≤ 10) {v v' : Nat → Int} {c : Int} (h : ∀ i, i < r → v i = v' i) (hr : v' r = v r + c) (hn : p ^ (r + 1) ≤ D) :
    ∀ i, i ≤ p ^ (r + 1) → tyLaw p D v' i (p ^ (r + 1) - i) = tyLaw p D v i (p ^ (r + 1) - i) - c * laz (p ^ (r + 1)) i := by
  have hp2 := hp.pos
  have hg := pow_gt hp2.1 (r + 1)
  obtain ⟨hlam, hr2⟩ := lam_p hp (show p ^ (r + 1) ≤ 10 by omega)
  have hlt : p ^ (r + 1) + 1 ≤ p ^ (r + 2) := Nat.pow_lt_pow_right (by omega) (by omega)
  obtain ⟨n, hnE⟩ : ∃ n, n = p ^ (r + 1) := ⟨_, rfl⟩
  have agr := tyLaw_agree (n := D) (n' := D) (r := r) (k := n) hp (by omega) hD (by omega) hD (v := v') (v' := v) (fun i hi => (h i hi).symm) (by omega) (by omega) (by omega)
  obtain ⟨F, hF⟩ : ∃ F, F = tyLaw p D v := ⟨_, rfl⟩
  obtain ⟨F', hF'⟩ : ∃ F', F' = tyLaw p D v' := ⟨_, rfl⟩
  have l0F : lo 0 1 F := by rw [hF]; exact lo_of0 (tyLaw_0 p D v)
  have l0F' : lo 0 1 F' := by rw [hF']; exact lo_of0 (tyLaw_0 p D v')
  have LF' : Lw 0 (D + 1) F' := by rw [hF']; exact tyLaw_lw hp (by omega) hD v' 0
  have A := eqv_le (tyLaw_log3 hp (show 1 ≤ D by omega) hD v) (show n + 1 ≤ D + 1 by omega)
  have A' := eqv_le (tyLaw_log3 hp (show 1 ≤ D by omega) hD v') (show n + 1 ≤ D + 1 by omega)
  rw [← hF] at A agr ⊢
  rw [← hF'] at A' agr ⊢
  have key : ∀ X : Nat → Nat → Int, lo 0 1 X → eqv 0 (n + 1) (LQ p (tyl p 3 v') (3 + 1) X) (ad (LQ p (tyl p 3 v) (3 + 1) X) (ml (ic ((p : Int) ^ 2 * c)) (pw X n))) := by
    intro X hX
    have e : ad (LQ p (tyl p 3 v) (3 + 1) X) (ml (ic ((p : Int) ^ 2 * c)) (pw X n)) = sm (3 + 1) (fun k => ad (ml (ic (tyl p 3 v k)) (pw X (p ^ k))) (if k = r + 1 then ml (ic ((p : Int) ^ 2 * c)) (pw X n) else zz)) := by
      rw [sm_ad, sm_ite (by omega)]; rfl
    rw [e]
    refine sm_eqv fun k hk => ?_
    by_cases h1 : k = r + 1
    · subst h1
      rw [if_pos rfl, hnE, ← ad_ml, ← ic_ad]
      refine eqv_of ?_
      congr 2
      unfold tyl
      rw [num_last h hr, Int.mul_add, ← Int.mul_assoc, ← Int.pow_add, show 3 - (r + 1) + r = 2 by omega]
    · rw [if_neg h1, ad_zz]
      by_cases h3 : k < r + 1
      · refine eqv_of ?_
        unfold tyl
        rw [num_congr k (fun i hi => h i (by omega))]
      · have hl : lo 0 (n + 1) (pw X (p ^ k)) := lo_le (pw_lo hX _) (Nat.le_trans (by omega) (Nat.pow_le_pow_right (show 0 < p by omega) (show r + 2 ≤ k by omega)))
        exact eqv_trans (eqv_lo (lo_mul _ hl)) (eqv_symm (eqv_lo (lo_mul _ hl)))
  have he : lo 0 ((n - 1) + 1) (ad F' (ng F)) := by
    rw [show n - 1 + 1 = n by omega]
    exact eqv2.2 fun i j hij => by rw [agr i j hij]
  have eF : F' = ad F (ad F' (ng F)) := by rw [show ad F (ad F' (ng F)) = ad (ad F (ng F)) F' by ac_rfl, ad_ng, zz_ad]
  have late := LQ_lateT hp2.1 (tyl p 3 v) 3 l0F he
  rw [← eF, show n - 1 + 2 = n + 1 by omega] at late
  have px : eqv 0 (n + 1) (pw F' n) (pw (ad xP yP) n) := pw_up1 l0F' (lo_xy 0) (law_xy LF') n
  -- both sides
  have e1 := eqv_trans (eqv_symm (key F' l0F')) (eqv_trans A' (eqv_ad (key xP (lo_xP 0)) (key yP (lo_yP 0))))
  have e2 := eqv_trans (eqv_symm (eqv_ad (eqv_trans late (eqv_ad A eqv_rfl)) (eqv_mll (ic ((p : Int) ^ 2 * c)) px))) e1
  intro i hi
  rw [← hnE] at hi ⊢
  have e3 := eqv2.1 e2 i (n - i) (by omega)
  rw [Int.emod_zero, Int.emod_zero] at e3
  have hx := xy_at (show 1 ≤ n by omega) hi
  have hb : (pw (ad xP yP) n : Nat → Nat → Int) i (n - i) = bin n i := by
    have := xy_pw i (n - i)
    rwa [show i + (n - i) = n by omega] at this
  have d1 : ∀ (X Y : Nat → Nat → Int), (ad X Y : Nat → Nat → Int) i (n - i) = X i (n - i) + Y i (n - i) := fun X Y => rfl
  simp only [d1, icml2, hx.1, hx.2, hb, tyl_0] at e3
  have hng : (ng F : Nat → Nat → Int) i (n - i) = - F i (n - i) := by
    rw [ser_ng, ser_ng]
    show (-1) * F i (n - i) = _
    omega
  rw [hng] at e3
  have hpi : (2 : Int) ≤ (p : Int) := by omega
  have p3 : (p : Int) ^ 3 = (p : Int) ^ 2 * p := Int.pow_succ ..
  have p2 : (0 : Int) < (p : Int) ^ 2 := Int.pow_pos (by omega)
  rw [p3] at e3
  generalize (p : Int) ^ 2 = q at e3 p2
  generalize LQ p (tyl p 3 v) (3 + 1) xP i (n - i) = A1 at e3
  generalize LQ p (tyl p 3 v) (3 + 1) yP i (n - i) = A2 at e3
  have e4 : q * ((p : Int) * (F' i (n - i) + - F i (n - i)) + c * bin n i) = q * (c * (if i = n then 1 else 0) + c * (if i = 0 then 1 else 0)) := by
    generalize F' i (n - i) + - F i (n - i) = d at e3 ⊢
    generalize (if i = n then (1 : Int) else 0) = ix at e3 ⊢
    generalize (if i = 0 then (1 : Int) else 0) = iy at e3 ⊢
    generalize bin n i = bb at e3 ⊢
    rw [Int.mul_add, Int.mul_add, ← Int.mul_assoc q (p : Int) d, ← Int.mul_assoc q c bb, ← Int.mul_assoc q c ix, ← Int.mul_assoc q c iy]
    omega
  have e5 := Int.eq_of_mul_eq_mul_left (by omega) e4
  have hpz : (p : Int) ≠ 0 := by omega
  by_cases hm : 1 ≤ i ∧ i < n
  · rw [if_neg (by omega), if_neg (by omega), bin_laz (by omega) (by omega) hm.1 hm.2, show lam n = (p : Int) by rw [hnE]; exact hlam] at e5
    have e6 : (p : Int) * (F' i (n - i) + - F i (n - i)) = (p : Int) * (-(c * laz n i)) := by
      rw [Int.mul_neg, show (p : Int) * (c * laz n i) = c * ((p : Int) * laz n i) by rw [← Int.mul_assoc, Int.mul_comm (p : Int) c, Int.mul_assoc]]
      omega
    have e7 := Int.eq_of_mul_eq_mul_left hpz e6
    omega
  · have hz : laz n i = 0 := by unfold laz; rw [if_neg hm]
    have hbi : bin n i = 1 := by
      obtain rfl | rfl : i = 0 ∨ i = n := by omega
      · exact bin_0 n
      · exact bin_self i
    have hs : (if i = n then (1 : Int) else 0) + (if i = 0 then 1 else 0) = 1 := by
      obtain h0 | h0 : i = 0 ∨ i = n := by omega
      · rw [if_neg (by omega), if_pos h0]; rfl
      · rw [if_pos h0, if_neg (by omega)]; rfl
    rw [hbi, ← Int.mul_add, hs] at e5
    have e6 : (p : Int) * (F' i (n - i) + - F i (n - i)) = (p : Int) * 0 := by omega
    have e7 := Int.eq_of_mul_eq_mul_left hpz e6
    rw [hz]; omega
end Go.Proofs.YtoednonijmkbjaaGreat
