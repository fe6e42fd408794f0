/- Lemmas of Par. -/
import Derived.Test.YtoednonijmkbjaaGreatVLeC
import Derived.Test.YtoednonijmkbjaaGreatVLzP
import Derived.Test.YtoednonijmkbjaaGreatVG16
import Derived.Test.YtoednonijmkbjaaGreatVCutP
set_option linter.unusedSimpArgs false
set_option linter.unusedVariables false
namespace Go.Proofs.YtoednonijmkbjaaGreat
open Go.RowKit
open Rg

theorem at0_pad (ls : List Int) (k : Nat) : at0 (ls ++ List.replicate k 0) = at0 ls := by
  funext i
  by_cases h : i < ls.length
  · exact at0_left h
  · have e1 : at0 ls i = 0 := at0_out (by omega)
    rw [e1]
    by_cases h' : i < ls.length + k
    · unfold at0 List.getD
      rw [List.getElem?_append_right (by omega), List.getElem?_replicate, if_pos (by omega)]; rfl
    · have e2 : (ls ++ List.replicate k (0 : Int)).length ≤ i := by rw [List.length_append, List.length_replicate]; omega
      exact at0_out e2
theorem typT2_eq (p : Nat) (m : Int) (n : Nat) (ls : List Int) : typT2 p m n ls = tri (n + 1) (fun i j => tyLaw p n (at0 ls) i j % m) := by
  unfold typT2 tyLaw
  rw [at0_pad]
theorem typT2_pad (p : Nat) (m : Int) (n : Nat) (ls : List Int) (k : Nat) : typT2 p m n (ls ++ List.replicate k 0) = typT2 p m n ls := by
  rw [typT2_eq, typT2_eq, at0_pad]
theorem typT2_ok {m : Int} (hm : 0 < m) (p n : Nat) (ls : List Int) : PlaT m (n + 1) (typT2 p m n ls) := by rw [typT2_eq]; exact tri_ok fun _ _ _ => mod_lt' hm
theorem typT2_lw {p n : Nat} (hp : P4 p) (n1 : 1 ≤ n) (hn : n ≤ 10) {m : Int} (hm : 2 ≤ m) (ls : List Int) : Lw m (n + 1) (atT (typT2 p m n ls)) := by
  refine (tyLaw_lw hp n1 hn (at0 ls) m).congr ?_ fun i j h => ?_
  · rw [typT2_eq, atT_tri (by omega), tyLaw_0, Int.zero_emod]
  · rw [typT2_eq, atT_tri h, mod_self_mod]
theorem Lw.cut {m : Int} {n k : Nat} {F : Nat → Nat → Int} (L : Lw m n F) (h2 : 2 ≤ k) (hk : k ≤ n) : Lw m k F := by
  refine ⟨h2, L.zer, fun i hi => L.un i (by omega), fun i j h => L.sy i j (by omega), fun p q r h => ?_⟩
  have lF : lo m 1 F := lo_law L
  have key : ∀ (u : Nat → Int) (a b : Nat), a + b < k → sm n (fun i => u i * (pw F i : Nat → Nat → Int) a b) % m = sm k (fun i => u i * (pw F i : Nat → Nat → Int) a b) % m := by
    intro u a b hab
    rw [← sumN_sm, ← sumN_sm]
    have e1 : sumN n (fun i => u i * (pw F i : Nat → Nat → Int) a b) % m = sumN n (fun i => if i < k then u i * (pw F i : Nat → Nat → Int) a b else 0) % m := by
      refine sumN_mod fun i hi => ?_
      by_cases hik : i < k
      · rw [if_pos hik]
      · rw [if_neg hik]
        have z : (pw F i : Nat → Nat → Int) a b % m = 0 % m := eqv2.1 (eqv_lo (pw_lo lF i)) a b (by omega)
        rw [emod_congr_mul (rfl : u i % m = _) z, Int.mul_zero]
    rw [e1, sumN_cut (n := n) (k := k) hk fun i hi _ => by rw [if_neg (by omega)]]
    exact congrArg (· % m) (sumN_congr fun i hi => by rw [if_pos hi])
  rw [← key (fun i => F i r) p q (by omega), ← key (fun j => F p j) q r (by omega)]
  exact L.as p q r (by omega)
theorem cutT_lw {m : Int} {n k : Nat} {t : List (List Int)} (L : Lw m n (atT t)) (h2 : 2 ≤ k) (hk : k ≤ n) : Lw m k (atT (cutT k t)) := by
  refine (L.cut h2 hk).congr ?_ fun i j h => by rw [cutT_at h]
  rw [cutT_at (by omega)]; exact L.zer

def ownF (p : Nat) (m : Int) (t : List (List Int)) (n : Nat) (ls : List Int) : Int := facTo m (laz n) (fun i => (atT (typT2 p m n ls) i (n - i) - atT (cutT (n + 1) t) i (n - i)) % m) (n + 1) m.toNat
def agrF (p : Nat) (m : Int) (t : List (List Int)) (n : Nat) (ls : List Int) : Prop := n ≤ agrK (cutT (n + 1) t) (typT2 p m n ls) (n + 1)
instance (p : Nat) (m : Int) (t : List (List Int)) (n : Nat) (ls : List Int) : Decidable (agrF p m t n ls) := by unfold agrF; infer_instance
def parL (p : Nat) (m : Int) (t : List (List Int)) : Nat → Option (List Int)
  | 0 => some []
  | k + 1 => match parL p m t k with
    | none => none
    | some ls => if agrF p m t (p ^ (k + 1)) ls then some (ls ++ [ownF p m t (p ^ (k + 1)) ls]) else none
def parS (p : Nat) (m : Int) (t : List (List Int)) : Nat → Option (List Int)
  | 0 => some []
  | k + 1 => match parS p m t k with
    | none => none
    | some ls => if 0 ≤ ownF p m t (p ^ (k + 1)) ls then some (ls ++ [ownF p m t (p ^ (k + 1)) ls]) else none
theorem parL_len {p : Nat} {m : Int} {t : List (List Int)} : ∀ {k : Nat} {ls : List Int}, parL p m t k = some ls → ls.length = k
  | 0, ls, h => by rw [← Option.some.inj h]; rfl
  | k + 1, ls, h => by
    unfold parL at h
    cases e : parL p m t k with
    | none => rw [e] at h; simp at h
    | some l =>
      rw [e] at h
      simp only at h
      split at h
      · rw [← Option.some.inj h]; simp [parL_len e]
      · simp at h
theorem parS_len {p : Nat} {m : Int} {t : List (List Int)} : ∀ {k : Nat} {ls : List Int}, parS p m t k = some ls → ls.length = k
  | 0, ls, h => by rw [← Option.some.inj h]; rfl
  | k + 1, ls, h => by
    unfold parS at h
    cases e : parS p m t k with
    | none => rw [e] at h; simp at h
    | some l =>
      rw [e] at h
      simp only at h
      split at h
      · rw [← Option.some.inj h]; simp [parS_len e]
      · simp at h
theorem agrK_ge {t s : List (List Int)} {n k : Nat} (hk : k ≤ n) (h : ∀ d, d < k → agrA t s d = true) : k ≤ agrK t s n := by
  have key : ∀ j, j ≤ n → (∀ d, d < j → agrA t s d = true) ∨ ∃ e, e < j ∧ (∀ d, d < e → agrA t s d = true) ∧ agrA t s e = false := by
    intro j
    induction j with
    | zero => intro _; exact .inl fun d hd => by omega
    | succ j ih =>
      intro hj
      rcases ih (by omega) with a | ⟨e, he, a, b⟩
      · cases hx : agrA t s j
        · exact .inr ⟨j, by omega, a, hx⟩
        · refine .inl fun d hd => ?_
          by_cases e : d = j
          · rw [e]; exact hx
          · exact a d (by omega)
      · exact .inr ⟨e, by omega, a, b⟩
  rcases key n (Nat.le_refl _) with a | ⟨e, he, a, b⟩
  · rw [agrK_all a]; exact hk
  · rw [agrK_at he a b]
    refine Nat.le_of_not_lt fun hlt => ?_
    rw [h e hlt] at b; simp at b
section run
variable {p D : Nat} {m : Int} {t : List (List Int)}
theorem own_ex (hp : P4 p) (hm : 2 ≤ m) (hD : D ≤ 10) (L : Lw m (D + 1) (atT t)) {n : Nat} (h2 : 2 ≤ n) (hn : n ≤ D) {ls : List Int} (h : agrF p m t n ls) : 0 ≤ ownF p m t n ls :=
  gap_ex hm h2 (by omega) (cutT_lw L (by omega) (by omega)) (typT2_lw hp (by omega) (by omega) hm ls) (agrK_eqv h)
theorem parL_S (hp : P4 p) (hm : 2 ≤ m) (hD : D ≤ 10) (L : Lw m (D + 1) (atT t)) : ∀ {k : Nat}, p ^ k ≤ D → ∀ {ls : List Int}, parL p m t k = some ls → parS p m t k = some ls
  | 0, _, ls, h => h
  | k + 1, hk, ls, h => by
    have hp2 := hp.pos
    have h1 : p ^ k ≤ p ^ (k + 1) := Nat.pow_le_pow_right (by omega) (by omega)
    have h2 := pow_gt hp2.1 (k + 1)
    unfold parL at h
    cases e : parL p m t k with
    | none => rw [e] at h; simp at h
    | some l =>
      rw [e] at h
      simp only at h
      unfold parS
      rw [parL_S hp hm hD L (by omega) e]
      simp only
      by_cases ha : agrF p m t (p ^ (k + 1)) l
      · rw [if_pos ha] at h
        rw [if_pos (own_ex hp hm hD L (by omega) hk ha)]
        exact h
      · rw [if_neg ha] at h; simp at h
theorem agr_of (hp : P4 p) (hm : 2 ≤ m) (hD1 : 1 ≤ D) (hD : D ≤ 10) {ls ms : List Int} (ht : typT2 p m D ms = t) {k : Nat} (hk : p ^ (k + 1) ≤ D) (hl : ls.length = k) (hpre : ∀ i, i < k → at0 ls i = at0 ms i) : agrF p m t (p ^ (k + 1)) ls := by
  have hp2 := hp.pos
  have hg := pow_gt hp2.1 (k + 1)
  have e := tyLaw_agree (n := p ^ (k + 1)) (n' := D) (r := k) (k := p ^ (k + 1)) hp (by omega) (by omega) hD1 hD hpre (by omega) (by omega) (Nat.le_refl _)
  refine agrK_ge (by omega) fun d hd => agrA_t fun i hi => ?_
  rw [cutT_at (by omega), ← ht, typT2_eq, typT2_eq, atT_tri (by omega), atT_tri (by omega), e i (d - i) (by omega)]
theorem at0_take' (ls : List Int) {k i : Nat} (h : i < k) : at0 (ls.take k) i = at0 ls i := by
  unfold at0 List.getD
  rw [List.getElem?_take, if_pos h]
theorem parS_L (hp : P4 p) (hm : 2 ≤ m) (hD1 : 1 ≤ D) (hD : D ≤ 10) (L : Lw m (D + 1) (atT t)) {K : Nat} (hK : p ^ K ≤ D) {ms : List Int} (hms : parS p m t K = some ms) (ht : typT2 p m D ms = t) :
    ∀ {j k : Nat}, k + j = K → ∃ ls, parS p m t k = some ls ∧ ls = ms.take k ∧ parL p m t k = some ls := by
  have hp2 := hp.pos
  have pre : ∀ j k, k + j = K → ∃ ls, parS p m t k = some ls ∧ ls = ms.take k := by
    intro j
    induction j with
    | zero =>
      intro k hk
      obtain rfl : k = K := by omega
      exact ⟨ms, hms, by rw [List.take_of_length_le (by rw [parS_len hms]; omega)]⟩
    | succ j ih =>
      intro k hk
      obtain ⟨l, hl, hle⟩ := ih (k + 1) (by omega)
      unfold parS at hl
      cases e : parS p m t k with
      | none => rw [e] at hl; simp at hl
      | some l' =>
        rw [e] at hl
        simp only at hl
        split at hl
        · refine ⟨l', rfl, ?_⟩
          have h1 := Option.some.inj hl
          have h2 := parS_len e
          have : (ms.take (k + 1)).take k = ms.take k := by rw [List.take_take, Nat.min_eq_left (by omega)]
          rw [← this, ← hle, ← h1, List.take_left' h2]
        · simp at hl
  have key : ∀ k, k ≤ K → parL p m t k = some (ms.take k) := by
    intro k
    induction k with
    | zero => intro _; rfl
    | succ k ih =>
      intro hk
      have ih := ih (by omega)
      obtain ⟨l, hl, hle⟩ := pre (K - k) k (by omega)
      obtain ⟨l1, hl1, hle1⟩ := pre (K - (k + 1)) (k + 1) (by omega)
      have hkD : p ^ (k + 1) ≤ D := Nat.le_trans (Nat.pow_le_pow_right (by omega) hk) hK
      have hlen : (ms.take k).length = k := by rw [← hle]; exact parS_len hl
      have ha := agr_of (ls := ms.take k) hp hm hD1 hD ht hkD hlen (fun i hi => at0_take' ms hi)
      unfold parL
      rw [ih]
      simp only
      rw [if_pos ha]
      unfold parS at hl1
      rw [hl, hle] at hl1
      simp only at hl1
      split at hl1
      · rw [hl1, hle1]
      · simp at hl1
  intro j k hjk
  obtain ⟨l, hl, hle⟩ := pre j k hjk
  exact ⟨l, hl, hle, by rw [key k (by omega), hle]⟩
def parO (p : Nat) (m : Int) (t : List (List Int)) (D : Nat) : Option (List Int) := match parL p m t (mostOf p D) with
  | none => none
  | some ls => if typT2 p m D ls = t then some ls else none
def parR (p : Nat) (m : Int) (t : List (List Int)) (D : Nat) : Option (List Int) := match parS p m t (mostOf p D) with
  | none => none
  | some ls => if typT2 p m D ls = t then some ls else none
theorem par_eq (hp : P4 p) (hm : 2 ≤ m) (hD1 : 1 ≤ D) (hD : D ≤ 10) (L : Lw m (D + 1) (atT t)) : parR p m t D = parO p m t D := by
  have hk : p ^ mostOf p D ≤ D := by
    by_cases h0 : mostOf p D = 0
    · rw [h0, Nat.pow_zero]; exact hD1
    · have h := (most_key hp hD (show mostOf p D - 1 ≤ mostOf p D by omega)).2.2.1.2 (by omega)
      rwa [show mostOf p D - 1 + 1 = mostOf p D by omega] at h
  unfold parR parO
  cases e : parL p m t (mostOf p D) with
  | some ls => rw [parL_S hp hm hD L hk e]
  | none =>
    cases e' : parS p m t (mostOf p D) with
    | none => rfl
    | some ms =>
      simp only
      by_cases ht : typT2 p m D ms = t
      · obtain ⟨l, _, _, hl⟩ := parS_L hp hm hD1 hD L hk e' ht (j := 0) (k := mostOf p D) (by omega)
        rw [e] at hl; simp at hl
      · rw [if_neg ht]
theorem own_neg (hp : P4 p) (hm : 2 ≤ m) (hD : D ≤ 10) (L : Lw m (D + 1) (atT t)) {n : Nat} (h2 : 2 ≤ n) (hn : n ≤ D) {ls : List Int} (h : agrF p m t n ls) :
    (-(facP m (laz n) (fun i => (atT (cutT (n + 1) t) i (n - i) - atT (typT2 p m n ls) i (n - i)) % m) (n + 1))) % m = ownF p m t n ls := by
  have LF := cutT_lw (k := n + 1) L (by omega) (by omega)
  have LG := typT2_lw hp (n := n) (by omega) (by omega) hm ls
  have h1 := gap_ex hm h2 (by omega) LG LF (fun i j hij => (agrK_eqv h i j hij).symm)
  have h0 := own_ex hp hm hD L h2 hn h
  rw [facP_eq h1]
  have key : ∀ (d : Nat → Int), 0 ≤ facTo m (laz n) d (n + 1) m.toNat → facTo m (laz n) d (n + 1) m.toNat < m ∧ ∀ i, i < n + 1 → d i % m = facTo m (laz n) d (n + 1) m.toNat * laz n i % m := by
    intro d hd
    rcases facTo_cases m (laz n) d (n + 1) m.toNat with e | ⟨k, hk, e, hf⟩
    · omega
    · rw [e]
      refine ⟨by omega, fun i hi => ?_⟩
      rw [fitTo_t hf i hi]
      exact emod_congr_mul rfl (mod_self_mod _ _)
  have k1 := key _ h1
  have k0 := key _ h0
  unfold ownF at h0 ⊢
  obtain ⟨x, hx⟩ : ∃ x, x = facTo m (laz n) (fun i => (atT (cutT (n + 1) t) i (n - i) - atT (typT2 p m n ls) i (n - i)) % m) (n + 1) m.toNat := ⟨_, rfl⟩
  obtain ⟨y, hy⟩ : ∃ y, y = facTo m (laz n) (fun i => (atT (typT2 p m n ls) i (n - i) - atT (cutT (n + 1) t) i (n - i)) % m) (n + 1) m.toNat := ⟨_, rfl⟩
  rw [← hx] at k1 ⊢
  unfold ownF at k0
  rw [← hy] at k0 h0 ⊢
  have e := laz_cancel h2 (by omega) (m := m) (x := -x) (y := y) fun i hi => by
    have a := k1.2 i hi
    have b := k0.2 i hi
    simp only [mod_self_mod] at a b
    rw [← b, Int.neg_mul]
    have c := emod_congr_sub (rfl : (0 : Int) % m = 0 % m) a.symm
    rw [Int.zero_sub, Int.zero_sub] at c
    rw [c]
    congr 1; omega
  rw [e, Int.emod_eq_of_lt h0 k0.1]
end run
end Go.Proofs.YtoednonijmkbjaaGreat
