/- Lemmas of RgL. -/
import Derived.Test.YtdnkadlondediaaQbRg
set_option linter.unusedSimpArgs false
set_option linter.unusedVariables false
namespace Go.Proofs.Ytdnkadlondediaa
open Rg

theorem eqv1 {m : Int} {n : Nat} {f g : Nat → Int} : eqv m n f g ↔ ∀ k, k < n → f k % m = g k % m := by
  constructor
  · intro h k hk
    rcases int_eqv.1 (eqv_ser h k) with e | e
    · omega
    · exact e
  · intro h
    exact ser_eqv fun k hk => int_eqv.2 (.inr (h k hk))
theorem eqv2 {m : Int} {n : Nat} {f g : Nat → Nat → Int} : eqv m n f g ↔ ∀ i j, i + j < n → f i j % m = g i j % m := by
  constructor
  · intro h i j hk
    exact eqv1.1 (eqv_ser h i) j (by omega)
  · intro h
    exact ser_eqv fun i hi => eqv1.2 fun j hj => h i j (by omega)

section gen
variable {T : Type} [Rg T]
def ev1 (n : Nat) (f : Nat → Int) (a : T) : T := ex n Rg.ic a f
def ev2 (n : Nat) (F : Nat → Nat → Int) (a b : T) : T := ex n (ex n Rg.ic b) a F
theorem hm1 {m : Int} {n : Nat} {a : T} (ha : lo m 1 a) : Hm m n (fun f => ev1 n f a) := (Hm.int m n).ex ha
theorem hm2 {m : Int} {n : Nat} {a b : T} (ha : lo m 1 a) (hb : lo m 1 b) : Hm m n (fun F => ev2 n F a b) := ((Hm.int m n).ex hb).ex ha
theorem ic_sm (n : Nat) (f : Nat → Int) : (ic (sm n f) : T) = sm n (fun i => ic (f i)) := (Hm.int 0 0).sm n f
theorem ev2_sum (n : Nat) (F : Nat → Nat → Int) (a b : T) : ev2 n F a b = sm n (fun i => sm n (fun j => ml (ic (F i j)) (ml (pw a i) (pw b j)))) := by
  unfold ev2 ex
  refine sm_congr fun i _ => ?_
  rw [sm_mr]
  exact sm_congr fun j _ => by ac_rfl
theorem ev2_lo {m : Int} {n k : Nat} (F : Nat → Nat → Int) {a b : T} (h0 : F 0 0 = 0) (hk : k ≤ 1) (ha : lo m k a) (hb : lo m k b) : lo m k (ev2 n F a b) := by
  rw [ev2_sum]
  refine sm_lo fun i _ => sm_lo fun j _ => ?_
  by_cases h : i = 0 ∧ j = 0
  · rw [h.1, h.2, h0, ic_0, zz_ml]; exact lo_zz _ _
  · refine lo_mul _ ?_
    obtain rfl | rfl : k = 0 ∨ k = 1 := by omega
    · exact lo_0 _ _
    · exact lo_le (lo_ml (pw_lo ha i) (pw_lo hb j)) (by omega)
theorem ev2_eqv {m : Int} {n k : Nat} {F G : Nat → Nat → Int} {a b a' b' : T} (ha : lo m 1 a) (hb : lo m 1 b) (hk : k ≤ n) (hF : ∀ i j, i + j < k → F i j % m = G i j % m) (ea : eqv m k a a') (eb : eqv m k b b') : eqv m k (ev2 n F a b) (ev2 n G a' b') := by
  rw [ev2_sum, ev2_sum]
  refine sm_eqv fun i _ => sm_eqv fun j _ => ?_
  have e := eqv_ml (pw_eqv ea i) (pw_eqv eb j)
  by_cases h : i + j < k
  · exact eqv_ml (eqv_ic (hF i j h)) e
  · have hl : lo m k (ml (pw a i) (pw b j)) := lo_le (lo_ml (pw_lo ha i) (pw_lo hb j)) (by omega)
    have hl' : lo m k (ml (pw a' i) (pw b' j)) := lo_eqv (eqv_symm e) (Nat.le_refl _) hl
    exact eqv_trans (eqv_lo (lo_mul _ hl)) (eqv_symm (eqv_lo (lo_mul _ hl')))
theorem pw_zz (k : Nat) : pw (zz : T) (k + 1) = zz := ml_zz _
theorem pw_1 (a : T) : pw a 1 = a := oo_ml _

structure Lw (m : Int) (n : Nat) (F : Nat → Nat → Int) : Prop where
  two : 2 ≤ n
  zer : F 0 0 = 0
  un : ∀ i, i < n → F i 0 % m = (if i = 1 then 1 else 0) % m
  sy : ∀ i j, i + j < n → F i j % m = F j i % m
  as : ∀ p q k, p + q + k < n → sm n (fun i => F i k * (pw F i : Nat → Nat → Int) p q) % m = sm n (fun j => F p j * (pw F j : Nat → Nat → Int) q k) % m
theorem ev2_comm {m : Int} {n : Nat} {F : Nat → Nat → Int} (L : Lw m n F) {a b : T} (ha : lo m 1 a) (hb : lo m 1 b) : eqv m n (ev2 n F a b) (ev2 n F b a) := by
  rw [ev2_sum, ev2_sum, sm_swap]
  refine sm_eqv fun i _ => sm_eqv fun j _ => ?_
  rw [ml_comm (pw a j)]
  by_cases h : i + j < n
  · exact eqv_mlr _ (eqv_ic (L.sy j i (by omega)))
  · have hl : lo m n (ml (pw b i) (pw a j)) := lo_le (lo_ml (pw_lo hb i) (pw_lo ha j)) (by omega)
    exact eqv_trans (eqv_lo (lo_mul _ hl)) (eqv_symm (eqv_lo (lo_mul _ hl)))
theorem sum_one {n : Nat} (h : 2 ≤ n) (f : Nat → T) : sm n (fun i => ml (ic (if i = 1 then 1 else 0)) (f i)) = f 1 := by
  obtain ⟨k, rfl⟩ : ∃ k, n = k + 1 + 1 := ⟨n - 2, by omega⟩
  rw [sm_first, sm_first, sm_none (n := k) fun i _ => by rw [if_neg (by omega), ic_0, zz_ml]]
  rw [if_neg (by omega), if_pos rfl, ic_0, ic_1, zz_ml, oo_ml, ad_zz, zz_ad]
theorem ev2_zz {m : Int} {n : Nat} {F : Nat → Nat → Int} (L : Lw m n F) (a : T) : eqv m n (ev2 n F a zz) a := by
  have h2 := L.two
  rw [ev2_sum]
  refine eqv_trans (y := sm n (fun i => ml (ic (if i = 1 then 1 else 0)) (pw a i))) (sm_eqv fun i hi => ?_) (eqv_of (by rw [sum_one h2, pw_1]))
  obtain ⟨k, rfl⟩ : ∃ k, n = k + 1 := ⟨n - 1, by omega⟩
  rw [sm_first, sm_none (n := k) fun j _ => by rw [pw_zz, ml_zz, ml_zz], ad_zz]
  show eqv m _ (ml _ (ml _ oo)) _
  rw [ml_oo]
  exact eqv_mlr _ (eqv_ic (L.un i hi))
theorem ev2_late {m : Int} {n j k : Nat} {F : Nat → Nat → Int} (L : Lw m n F) {a b e : T} (ha : lo m 1 a) (hb : lo m 1 b) (he : lo m j e) (hj : 1 ≤ j) (hk : k ≤ n) (hk' : k ≤ j + 1) : eqv m k (ev2 n F a (ad b e)) (ad (ev2 n F a b) e) := by
  have h2 := L.two
  have hp : ∀ q, eqv m (j + 1) (pw (ad b e) (q + 2)) (pw b (q + 2)) := by
    intro q
    induction q with
    | zero =>
      show eqv m _ (ml (ml oo (ad b e)) (ad b e)) (ml (ml oo b) b)
      rw [oo_ml, oo_ml, ad_ml, ml_ad, ml_ad]
      refine eqv_trans (y := ad (ad (ml b b) zz) zz) (eqv_ad (eqv_ad eqv_rfl (eqv_lo ?_)) (eqv_lo ?_)) (eqv_of (by rw [ad_zz, ad_zz]))
      · exact lo_le (lo_ml hb he) (by omega)
      · exact lo_ad (lo_le (lo_ml he hb) (by omega)) (lo_le (lo_ml he he) (by omega))
    | succ q ih =>
      show eqv m _ (ml (pw (ad b e) (q + 2)) (ad b e)) (ml (pw b (q + 2)) b)
      rw [ml_ad]
      refine eqv_trans (eqv_ad (eqv_mlr b ih) (eqv_lo (lo_le (lo_ml (pw_lo (lo_ad hb (lo_le he hj)) (q + 2)) he) (by omega)))) (eqv_of (ad_zz _))
  rw [ev2_sum, ev2_sum]
  obtain ⟨N, rfl⟩ : ∃ N, n = N + 1 + 1 := ⟨n - 2, by omega⟩
  rw [sm_first, sm_first (N + 1) (fun i => sm (N + 1 + 1) fun j => ml (ic (F i j)) (ml (pw a i) (pw b j)))]
  rw [show ∀ x y z : T, ad (ad x y) z = ad (ad x z) y from fun x y z => by ac_rfl]
  refine eqv_ad ?_ ?_
  · rw [sm_first, sm_first (N + 1) (fun j => ml (ic (F 0 j)) (ml (pw a 0) (pw b j))), sm_first, sm_first N]
    show eqv m k (ad _ (ad (ml (ic (F 0 1)) (ml oo (ml oo (ad b e)))) _)) (ad (ad _ (ad (ml (ic (F 0 1)) (ml oo (ml oo b))) _)) e)
    simp only [oo_ml]
    have e1 : eqv m k (ml (ic (F 0 1)) (ad b e)) (ad (ml (ic (F 0 1)) b) e) := by
      rw [ml_ad]
      refine eqv_ad eqv_rfl (eqv_trans (eqv_mlr e (eqv_ic (b := 1) ?_)) (eqv_of (by rw [ic_1, oo_ml])))
      rw [L.sy 0 1 (by omega), L.un 1 (by omega), if_pos rfl]
    refine eqv_trans (eqv_ad (eqv_of rfl) (eqv_ad e1 (sm_eqv (g := fun i => ml (ic (F 0 (i + 1 + 1))) (ml (pw a 0) (pw b (i + 1 + 1)))) fun i _ => eqv_mll _ (eqv_mll _ (eqv_le (hp i) hk'))))) (eqv_of ?_)
    show ad (ml (ic (F 0 0)) (ml (pw a 0) oo)) _ = ad (ad (ml (ic (F 0 0)) (ml (pw a 0) oo)) _) e
    ac_rfl
  · refine sm_eqv fun i _ => sm_eqv fun q _ => eqv_mll _ ?_
    obtain rfl | ⟨q, rfl⟩ : q = 0 ∨ ∃ q', q = q' + 1 := by cases q with
      | zero => exact .inl rfl
      | succ q => exact .inr ⟨q, rfl⟩
    · exact eqv_rfl
    · have : eqv m j (pw (ad b e) (q + 1)) (pw b (q + 1)) := pw_eqv (eqv_trans (eqv_ad eqv_rfl (eqv_lo he)) (eqv_of (ad_zz _))) _
      exact eqv_le (eqv_up (pw_lo ha (i + 1)) this) (by omega)
theorem ev2_low {m : Int} {n j k : Nat} {F : Nat → Nat → Int} (L : Lw m n F) {a e : T} (ha : lo m 1 a) (he : lo m j e) (hj : 1 ≤ j) (hk : k ≤ n) (hk' : k ≤ j + 1) : eqv m k (ev2 n F a e) (ad a e) := by
  have := ev2_late L ha (lo_zz m 1) he hj hk hk'
  rw [zz_ad] at this
  exact eqv_trans this (eqv_ad (eqv_le (ev2_zz L a) hk) eqv_rfl)

theorem three_sum (n : Nat) (F : Nat → Nat → Int) (G : Nat → Nat → Nat → Int) (a b c : T) :
    sm n (fun i => ml (sm n (fun k => ml (ic (F i k)) (pw c k))) (ev2 n (G i) a b)) = sm n (fun p => sm n (fun q => sm n (fun k => ml (ic (sm n (fun i => F i k * G i p q))) (ml (pw a p) (ml (pw b q) (pw c k)))))) := by
  have e : ∀ i, ml (sm n (fun k => ml (ic (F i k)) (pw c k))) (ev2 n (G i) a b) = sm n (fun p => sm n (fun q => sm n (fun k => ml (ic (F i k * G i p q)) (ml (pw a p) (ml (pw b q) (pw c k)))))) := by
    intro i
    rw [ev2_sum, sm_ml]
    refine sm_congr fun p _ => ?_
    rw [sm_ml]
    refine sm_congr fun q _ => ?_
    rw [sm_mr]
    refine sm_congr fun k _ => ?_
    rw [ic_ml]; ac_rfl
  rw [sm_congr fun i _ => e i, sm_swap]
  refine sm_congr fun p _ => ?_
  rw [sm_swap]
  refine sm_congr fun q _ => ?_
  rw [sm_swap]
  refine sm_congr fun k _ => ?_
  rw [ic_sm, sm_mr]
theorem three_sum' (n : Nat) (F : Nat → Nat → Int) (G : Nat → Nat → Nat → Int) (a b c : T) :
    sm n (fun p => ml (sm n (fun j => ml (ic (F p j)) (ev2 n (G j) b c))) (pw a p)) = sm n (fun p => sm n (fun q => sm n (fun k => ml (ic (sm n (fun j => F p j * G j q k))) (ml (pw a p) (ml (pw b q) (pw c k)))))) := by
  refine sm_congr fun p _ => ?_
  have e : ∀ j, ml (ml (ic (F p j)) (ev2 n (G j) b c)) (pw a p) = sm n (fun q => sm n (fun k => ml (ic (F p j * G j q k)) (ml (pw a p) (ml (pw b q) (pw c k))))) := by
    intro j
    rw [ev2_sum, sm_ml, sm_mr]
    refine sm_congr fun q _ => ?_
    rw [sm_ml, sm_mr]
    refine sm_congr fun k _ => ?_
    rw [ic_ml]; ac_rfl
  rw [sm_mr, sm_congr fun j _ => e j, sm_swap]
  refine sm_congr fun q _ => ?_
  rw [sm_swap]
  refine sm_congr fun k _ => ?_
  rw [ic_sm, sm_mr]
theorem ev2_assoc {m : Int} {n : Nat} {F : Nat → Nat → Int} (L : Lw m n F) {a b c : T} (ha : lo m 1 a) (hb : lo m 1 b) (hc : lo m 1 c) :
    eqv m n (ev2 n F (ev2 n F a b) c) (ev2 n F a (ev2 n F b c)) := by
  have e1 : eqv m n (ev2 n F (ev2 n F a b) c) (sm n (fun i => ml (sm n (fun k => ml (ic (F i k)) (pw c k))) (ev2 n (pw F i) a b))) :=
    sm_eqv fun i _ => eqv_mll _ (eqv_symm ((hm2 ha hb).pw F i))
  have e2 : eqv m n (ev2 n F a (ev2 n F b c)) (sm n (fun p => ml (sm n (fun j => ml (ic (F p j)) (ev2 n (pw F j) b c))) (pw a p))) :=
    sm_eqv fun p _ => eqv_mlr _ (sm_eqv fun j _ => eqv_mll _ (eqv_symm ((hm2 hb hc).pw F j)))
  refine eqv_trans e1 (eqv_trans ?_ (eqv_symm e2))
  rw [three_sum n F (fun i => pw F i), three_sum' n F (fun i => pw F i)]
  refine sm_eqv fun p _ => sm_eqv fun q _ => sm_eqv fun k _ => ?_
  by_cases h : p + q + k < n
  · exact eqv_mlr _ (eqv_ic (L.as p q k h))
  · have hl : lo m n (ml (pw a p) (ml (pw b q) (pw c k))) := lo_le (lo_ml (pw_lo ha p) (lo_ml (pw_lo hb q) (pw_lo hc k))) (by omega)
    exact eqv_trans (eqv_lo (lo_mul _ hl)) (eqv_symm (eqv_lo (lo_mul _ hl)))
theorem ev2_four {m : Int} {n : Nat} {F : Nat → Nat → Int} (L : Lw m n F) {a b c d : T} (ha : lo m 1 a) (hb : lo m 1 b) (hc : lo m 1 c) (hd : lo m 1 d) :
    eqv m n (ev2 n F (ev2 n F a b) (ev2 n F c d)) (ev2 n F (ev2 n F a c) (ev2 n F b d)) := by
  have l2 : ∀ {x y : T}, lo m 1 x → lo m 1 y → lo m 1 (ev2 n F x y) := fun hx hy => ev2_lo F L.zer (Nat.le_refl _) hx hy
  have cg : ∀ {x y x' y' : T}, lo m 1 x → lo m 1 y → eqv m n x x' → eqv m n y y' → eqv m n (ev2 n F x y) (ev2 n F x' y') := fun hx hy ex ey => ev2_eqv hx hy (Nat.le_refl _) (fun _ _ _ => rfl) ex ey
  refine eqv_trans (ev2_assoc L ha hb (l2 hc hd)) (eqv_trans ?_ (eqv_symm (ev2_assoc L ha hc (l2 hb hd))))
  refine cg ha (l2 hb (l2 hc hd)) eqv_rfl ?_
  refine eqv_trans (eqv_symm (ev2_assoc L hb hc hd)) (eqv_trans ?_ (ev2_assoc L hc hb hd))
  exact cg (l2 hb hc) hd (ev2_comm L hb hc) eqv_rfl
end gen
end Go.Proofs.Ytdnkadlondediaa
