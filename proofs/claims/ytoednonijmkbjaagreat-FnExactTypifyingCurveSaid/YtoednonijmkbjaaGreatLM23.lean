/- Lemmas. -/
import Derived.Test.YtoednonijmkbjaaGreatLM22
import Derived.Test.YtoednonijmkbjaaGreatLM11
import Derived.Test.YtoednonijmkbjaaGreatLG2
import Derived.Laws.CopyOwn
import Derived.Test.YtoednonijmkbjaaGreatLG15
import Derived.Test.YtoednonijmkbjaaGreatLM8
import Derived.Test.YtoednonijmkbjaaGreatLM12
import Derived.Test.YtoednonijmkbjaaGreatLM15
set_option linter.unusedSimpArgs false
set_option linter.unusedVariables false
namespace Go.Proofs.YtoednonijmkbjaaGreat
open Go.RowKit
open Rg

theorem at0_pad (ls : List Int) (k : Nat) : at0 (ls ++ List.replicate k 0) = at0 ls := by
  funext i
  by_cases h : i < ls.length
  · exact at0_left h
  · have e1 : at0 ls i = 0 := at0_out (by omega)
    rw [e1]
    by_cases h' : i < ls.length + k
    · unfold at0 List.getD
      rw [List.getElem?_append_right (by omega), List.getElem?_replicate, if_pos (by omega)]; rfl
    · have e2 : (ls ++ List.replicate k (0 : Int)).length ≤ i := by rw [List.length_append, List.length_replicate]; omega
      exact at0_out e2
theorem typT2_eq (p : Nat) (m : Int) (n : Nat) (ls : List Int) : typT2 p m n ls = tri (n + 1) (fun i j => tyLaw p n (at0 ls) i j % m) := by
  unfold typT2 tyLaw
  rw [at0_pad]
theorem typT2_ok {m : Int} (hm : 0 < m) (p n : Nat) (ls : List Int) : PlaT m (n + 1) (typT2 p m n ls) := by rw [typT2_eq]; exact tri_ok fun _ _ _ => mod_lt' hm
theorem typT2_lw {p n : Nat} (hp : P4 p) (n1 : 1 ≤ n) (hn : n ≤ 10) {m : Int} (hm : 2 ≤ m) (ls : List Int) : Lw m (n + 1) (atT (typT2 p m n ls)) := by
  refine (tyLaw_lw hp n1 hn (at0 ls) m).congr ?_ fun i j h => ?_
  · rw [typT2_eq, atT_tri (by omega), tyLaw_0, Int.zero_emod]
  · rw [typT2_eq, atT_tri h, mod_self_mod]
theorem Lw.cut {m : Int} {n k : Nat} {F : Nat → Nat → Int} (L : Lw m n F) (h2 : 2 ≤ k) (hk : k ≤ n) : Lw m k F := by
  refine ⟨h2, L.zer, fun i hi => L.un i (by omega), fun i j h => L.sy i j (by omega), fun p q r h => ?_⟩
  have lF : lo m 1 F := lo_law L
  have key : ∀ (u : Nat → Int) (a b : Nat), a + b < k → sm n (fun i => u i * (pw F i : Nat → Nat → Int) a b) % m = sm k (fun i => u i * (pw F i : Nat → Nat → Int) a b) % m := by
    intro u a b hab
    rw [← sumN_sm, ← sumN_sm]
    have e1 : sumN n (fun i => u i * (pw F i : Nat → Nat → Int) a b) % m = sumN n (fun i => if i < k then u i * (pw F i : Nat → Nat → Int) a b else 0) % m := by
      refine sumN_mod fun i hi => ?_
      by_cases hik : i < k
      · rw [if_pos hik]
      · rw [if_neg hik]
        have z : (pw F i : Nat → Nat → Int) a b % m = 0 % m := eqv2.1 (eqv_lo (pw_lo lF i)) a b (by omega)
        rw [emod_congr_mul (rfl : u i % m = _) z, Int.mul_zero]
    rw [e1, sumN_cut (n := n) (k := k) hk fun i hi _ => by rw [if_neg (by omega)]]
    exact congrArg (· % m) (sumN_congr fun i hi => by rw [if_pos hi])
  rw [← key (fun i => F i r) p q (by omega), ← key (fun j => F p j) q r (by omega)]
  exact L.as p q r (by omega)
theorem cutT_lw {m : Int} {n k : Nat} {t : List (List Int)} (L : Lw m n (atT t)) (h2 : 2 ≤ k) (hk : k ≤ n) : Lw m k (atT (cutT k t)) := by
  refine (L.cut h2 hk).congr ?_ fun i j h => by rw [cutT_at h]
  rw [cutT_at (by omega)]; exact L.zer

def ownF (p : Nat) (m : Int) (t : List (List Int)) (n : Nat) (ls : List Int) : Int := facTo m (laz n) (fun i => (atT (typT2 p m n ls) i (n - i) - atT (cutT (n + 1) t) i (n - i)) % m) (n + 1) m.toNat
def agrF (p : Nat) (m : Int) (t : List (List Int)) (n : Nat) (ls : List Int) : Prop := n ≤ agrK (cutT (n + 1) t) (typT2 p m n ls) (n + 1)
instance (p : Nat) (m : Int) (t : List (List Int)) (n : Nat) (ls : List Int) : Decidable (agrF p m t n ls) := by unfold agrF; infer_instance
def parL (p : Nat) (m : Int) (t : List (List Int)) : Nat → Option (List Int)
  | 0 => some []
  | k + 1 => match parL p m t k with
    | none => none
    | some ls => if agrF p m t (p ^ (k + 1)) ls then some (ls ++ [ownF p m t (p ^ (k + 1)) ls]) else none
def parS (p : Nat) (m : Int) (t : List (List Int)) : Nat → Option (List Int)
  | 0 => some []
  | k + 1 => match parS p m t k with
    | none => none
    | some ls => if 0 ≤ ownF p m t (p ^ (k + 1)) ls then some (ls ++ [ownF p m t (p ^ (k + 1)) ls]) else none
theorem parS_len {p : Nat} {m : Int} {t : List (List Int)} : ∀ {k : Nat} {ls : List Int}, parS p m t k = some ls → ls.length = k
  | 0, ls, h => by rw [← Option.some.inj h]; rfl
  | k + 1, ls, h => by
    unfold parS at h
    cases e : parS p m t k with
    | none => rw [e] at h; simp at h
    | some l =>
      rw [e] at h
      simp only at h
      split at h
      · rw [← Option.some.inj h]; simp [parS_len e]
      · simp at h
theorem agrK_ge {t s : List (List Int)} {n k : Nat} (hk : k ≤ n) (h : ∀ d, d < k → agrA t s d = true) : k ≤ agrK t s n := by
  have key : ∀ j, j ≤ n → (∀ d, d < j → agrA t s d = true) ∨ ∃ e, e < j ∧ (∀ d, d < e → agrA t s d = true) ∧ agrA t s e = false := by
    intro j
    induction j with
    | zero => intro _; exact .inl fun d hd => by omega
    | succ j ih =>
      intro hj
      rcases ih (by omega) with a | ⟨e, he, a, b⟩
      · cases hx : agrA t s j
        · exact .inr ⟨j, by omega, a, hx⟩
        · refine .inl fun d hd => ?_
          by_cases e : d = j
          · rw [e]; exact hx
          · exact a d (by omega)
      · exact .inr ⟨e, by omega, a, b⟩
  rcases key n (Nat.le_refl _) with a | ⟨e, he, a, b⟩
  · rw [agrK_all a]; exact hk
  · rw [agrK_at he a b]
    refine Nat.le_of_not_lt fun hlt => ?_
    rw [h e hlt] at b; simp at b
section run
variable {p D : Nat} {m : Int} {t : List (List Int)}
theorem own_ex (hp : P4 p) (hm : 2 ≤ m) (hD : D ≤ 10) (L : Lw m (D + 1) (atT t)) {n : Nat} (h2 : 2 ≤ n) (hn : n ≤ D) {ls : List Int} (h : agrF p m t n ls) : 0 ≤ ownF p m t n ls :=
  gap_ex hm h2 (by omega) (cutT_lw L (by omega) (by omega)) (typT2_lw hp (by omega) (by omega) hm ls) (agrK_eqv h)
theorem parL_S (hp : P4 p) (hm : 2 ≤ m) (hD : D ≤ 10) (L : Lw m (D + 1) (atT t)) : ∀ {k : Nat}, p ^ k ≤ D → ∀ {ls : List Int}, parL p m t k = some ls → parS p m t k = some ls
  | 0, _, ls, h => h
  | k + 1, hk, ls, h => by
    have hp2 := hp.pos
    have h1 : p ^ k ≤ p ^ (k + 1) := Nat.pow_le_pow_right (by omega) (by omega)
    have h2 := pow_gt hp2.1 (k + 1)
    unfold parL at h
    cases e : parL p m t k with
    | none => rw [e] at h; simp at h
    | some l =>
      rw [e] at h
      simp only at h
      unfold parS
      rw [parL_S hp hm hD L (by omega) e]
      simp only
      by_cases ha : agrF p m t (p ^ (k + 1)) l
      · rw [if_pos ha] at h
        rw [if_pos (own_ex hp hm hD L (by omega) hk ha)]
        exact h
      · rw [if_neg ha] at h; simp at h
theorem agr_of (hp : P4 p) (hm : 2 ≤ m) (hD1 : 1 ≤ D) (hD : D ≤ 10) {ls ms : List Int} (ht : typT2 p m D ms = t) {k : Nat} (hk : p ^ (k + 1) ≤ D) (hl : ls.length = k) (hpre : ∀ i, i < k → at0 ls i = at0 ms i) : agrF p m t (p ^ (k + 1)) ls := by
  have hp2 := hp.pos
  have hg := pow_gt hp2.1 (k + 1)
  have e := tyLaw_agree (n := p ^ (k + 1)) (n' := D) (r := k) (k := p ^ (k + 1)) hp (by omega) (by omega) hD1 hD hpre (by omega) (by omega) (Nat.le_refl _)
  refine agrK_ge (by omega) fun d hd => agrA_t fun i hi => ?_
  rw [cutT_at (by omega), ← ht, typT2_eq, typT2_eq, atT_tri (by omega), atT_tri (by omega), e i (d - i) (by omega)]
theorem at0_take' (ls : List Int) {k i : Nat} (h : i < k) : at0 (ls.take k) i = at0 ls i := by
  unfold at0 List.getD
  rw [List.getElem?_take, if_pos h]
theorem parS_L (hp : P4 p) (hm : 2 ≤ m) (hD1 : 1 ≤ D) (hD : D ≤ 10) (L : Lw m (D + 1) (atT t)) {K : Nat} (hK : p ^ K ≤ D) {ms : List Int} (hms : parS p m t K = some ms) (ht : typT2 p m D ms = t) :
    ∀ {j k : Nat}, k + j = K → ∃ ls, parS p m t k = some ls ∧ ls = ms.take k ∧ parL p m t k = some ls := by
  have hp2 := hp.pos
  have pre : ∀ j k, k + j = K → ∃ ls, parS p m t k = some ls ∧ ls = ms.take k := by
    intro j
    induction j with
    | zero =>
      intro k hk
      obtain rfl : k = K := by omega
      exact ⟨ms, hms, by rw [List.take_of_length_le (by rw [parS_len hms]; omega)]⟩
    | succ j ih =>
      intro k hk
      obtain ⟨l, hl, hle⟩ := ih (k + 1) (by omega)
      unfold parS at hl
      cases e : parS p m t k with
      | none => rw [e] at hl; simp at hl
      | some l' =>
        rw [e] at hl
        simp only at hl
        split at hl
        · refine ⟨l', rfl, ?_⟩
          have h1 := Option.some.inj hl
          have h2 := parS_len e
          have : (ms.take (k + 1)).take k = ms.take k := by rw [List.take_take, Nat.min_eq_left (by omega)]
          rw [← this, ← hle, ← h1, List.take_left' h2]
        · simp at hl
  have key : ∀ k, k ≤ K → parL p m t k = some (ms.take k) := by
    intro k
    induction k with
    | zero => intro _; rfl
    | succ k ih =>
      intro hk
      have ih := ih (by omega)
      obtain ⟨l, hl, hle⟩ := pre (K - k) k (by omega)
      obtain ⟨l1, hl1, hle1⟩ := pre (K - (k + 1)) (k + 1) (by omega)
      have hkD : p ^ (k + 1) ≤ D := Nat.le_trans (Nat.pow_le_pow_right (by omega) hk) hK
      have hlen : (ms.take k).length = k := by rw [← hle]; exact parS_len hl
      have ha := agr_of (ls := ms.take k) hp hm hD1 hD ht hkD hlen (fun i hi => at0_take' ms hi)
      unfold parL
      rw [ih]
      simp only
      rw [if_pos ha]
      unfold parS at hl1
      rw [hl, hle] at hl1
      simp only at hl1
      split at hl1
      · rw [hl1, hle1]
      · simp at hl1
  intro j k hjk
  obtain ⟨l, hl, hle⟩ := pre j k hjk
  exact ⟨l, hl, hle, by rw [key k (by omega), hle]⟩
def parO (p : Nat) (m : Int) (t : List (List Int)) (D : Nat) : Option (List Int) := match parL p m t (mostOf p D) with
  | none => none
  | some ls => if typT2 p m D ls = t then some ls else none
def parR (p : Nat) (m : Int) (t : List (List Int)) (D : Nat) : Option (List Int) := match parS p m t (mostOf p D) with
  | none => none
  | some ls => if typT2 p m D ls = t then some ls else none
theorem par_eq (hp : P4 p) (hm : 2 ≤ m) (hD1 : 1 ≤ D) (hD : D ≤ 10) (L : Lw m (D + 1) (atT t)) : parR p m t D = parO p m t D := by
  have hk : p ^ mostOf p D ≤ D := by
    by_cases h0 : mostOf p D = 0
    · rw [h0, Nat.pow_zero]; exact hD1
    · have h := (most_key hp hD (show mostOf p D - 1 ≤ mostOf p D by omega)).2.2.1.2 (by omega)
      rwa [show mostOf p D - 1 + 1 = mostOf p D by omega] at h
  unfold parR parO
  cases e : parL p m t (mostOf p D) with
  | some ls => rw [parL_S hp hm hD L hk e]
  | none =>
    cases e' : parS p m t (mostOf p D) with
    | none => rfl
    | some ms =>
      simp only
      by_cases ht : typT2 p m D ms = t
      · obtain ⟨l, _, _, hl⟩ := parS_L hp hm hD1 hD L hk e' ht (j := 0) (k := mostOf p D) (by omega)
        rw [e] at hl; simp at hl
      · rw [if_neg ht]
end run
end Go.Proofs.YtoednonijmkbjaaGreat
/- Lists of int; copies of rows. -/
set_option linter.unusedSimpArgs false
set_option linter.unusedVariables false
namespace Go.Proofs.YtoednonijmkbjaaGreat
open Go.RowKit
open Go

def OwJ (w : World) (B : Nat) (v : Value) (xs : List Int) : Prop := w.ownsRow B 3 1 v xs.length (xs.map (Value.int .i64))
theorem OwJ.rd {w : World} {B : Nat} {v : Value} {xs : List Int} (h : OwJ w B v xs) : RdI w v xs := by
  obtain ⟨h1, h2⟩ := h
  rcases h2 with ⟨rfl, h0⟩ | ⟨g, cap, cur, rfl, hg, hh, hn, hcm, hcs, ht⟩
  · have : xs = [] := List.eq_nil_of_length_eq_zero h0
    subst this
    exact RdI.nil w
  · refine ⟨_, _, rfl, ⟨by omega, hn, fun h => by cases h⟩, fun k x hx => ⟨g, 0, rfl, ?_⟩⟩
    have := World.ownsRow.cells (w := w) (base := B) (e := 3) (size := 1) (v := .slice (some ⟨g, 0, none⟩) xs.length cap) (n := xs.length) (xs := xs.map (Value.int .i64)) ⟨h1, .inr ⟨g, cap, cur, rfl, hg, hh, hn, hcm, hcs, ht⟩⟩ (g := g) rfl k (.int .i64 x) (by simp [hx])
    have e : (⟨g, 0, none⟩ : Addr).add k = ⟨g, 0 + k, none⟩ := by unfold Addr.add; split <;> simp_all
    rw [e] at this
    exact this
theorem OwJ.lt {w : World} {B : Nat} {v : Value} {xs : List Int} (h : OwJ w B v xs) : ∀ k, v.ownBlock = some k → B ≤ k ∧ k < w.heap.size := World.ownsRow.lt h
theorem OwJ.lit (w : World) (ys : List Int) (h : ys.length ≤ maxLen) : OwJ (w.alloc (.cells (ys.map (Value.int .i64)).toArray 3)) w.heap.size (.slice (some ⟨w.heap.size, 0, none⟩) ys.length ys.length) ys := by
  have := World.ownsRow_lit (base := w.heap.size) (e := 3) (size := 1) w (ys.map (Value.int .i64)).toArray ys.length (Nat.le_refl _) h (by simp)
  simpa [OwJ] using this
theorem run_cpI (w : World) (ty : TypeId) (B g n c : Nat) (xs : List Int) (hown : OwI w B (.slice (some ⟨g, 0, none⟩) n c) xs) (b f n' c' : Nat) (ys : List Int) (hr : RdI w (.slice (some ⟨b, f, none⟩) n' c') ys) (hn : n ≤ n') :
    ∃ w', (Builtin.copy_ #[26, 26] ty #[.slice (some ⟨g, 0, none⟩) n c, .slice (some ⟨b, f, none⟩) n' c']).run Tryz.prog w = .ok (goInt n) w' ∧ OwI w' B (.slice (some ⟨g, 0, none⟩) n c) (ys.take n) ∧ w.grownBy w' (some g) := by
  obtain ⟨i0, hi, hz0, hz1, hz2⟩ := info_parts info_i
  have hln := hown.len
  obtain ⟨h1, h2⟩ := hown
  rcases h2 with ⟨h, _⟩ | ⟨g1, cap1, cur, hv, hg, hh, hnc, hcm, hcs, ht⟩
  · simp at h
  obtain ⟨e1, e2, e3⟩ := Value.slice.inj hv
  obtain rfl : g = g1 := by simpa using e1
  subst e3
  obtain ⟨o', c2, heq, hm, hc⟩ := hr
  obtain ⟨rfl, rfl, rfl⟩ : some ⟨b, f, none⟩ = o' ∧ n' = ys.length ∧ c' = c2 := by simpa using heq
  have hcl : ((ys.take n).map (Value.int .i64)).length = n := by simp; omega
  have hrun := run_copy_row (P := Tryz.prog) w 26 26 ty 2 g 0 n c ⟨b, f, none⟩ ys.length c' cur 2 ((ys.take n).map (Value.int .i64)) Tryz.underlying26 (by rw [hi]; simp [hz1]) hh (by rw [hcl]; exact (Nat.min_eq_right hn).symm) (fun j u hj => by
    simp only [List.getElem?_map, Option.map_eq_some_iff] at hj
    obtain ⟨y, hy, rfl⟩ := hj
    rw [List.getElem?_take] at hy
    split at hy
    · obtain ⟨b', f', hb, hcell⟩ := hc j y hy
      obtain ⟨rfl, rfl⟩ : b = b' ∧ f = f' := by simpa using hb
      rw [Addr.add_lit]; exact hcell
    · simp at hy) (by rw [hcl]; omega) (ints_oneCell .i64 _)
  rw [hcl] at hrun
  refine ⟨_, hrun, ⟨by (first | (simp; done) | (simp; omega)), .inr ⟨g, c, _, by simp; omega, hg, setRow_heap w g cur _ _ _ hh, by simp; omega, hcm, ?_, ?_⟩⟩, ⟨rfl, rfl, rfl, by simp, fun k _ hk => setRow_other w g k _ (fun e => hk (by rw [e]))⟩⟩
  · first | (simp; done) | (simp; omega)
  · simp
end Go.Proofs.YtoednonijmkbjaaGreat

/- The program's cut of a plane; the powers of a prime up to a degree. -/
set_option linter.unusedSimpArgs false
set_option linter.unusedVariables false
namespace Go.Proofs.YtoednonijmkbjaaGreat
open Go.RowKit

def cutTo (k : Nat) (t : List (List Int)) (q : Nat) : List (List Int) := tri (k + 1) (fun a b => if a < q then atT t a b else 0)
theorem cutTo_0 (k : Nat) (t : List (List Int)) : zeroT (k + 1) = cutTo k t 0 := tri_ext fun a b _ => by rw [if_neg (by omega)]
theorem cutTo_all (k : Nat) (t : List (List Int)) : cutTo k t (k + 1) = cutT (k + 1) t := tri_ext fun a b _ => by rw [if_pos (by omega)]
theorem cutTo_set {k q : Nat} {t : List (List Int)} (h : q < k + 1) : (cutTo k t q).set q (mk (k + 1 - q) (atT t q)) = cutTo k t (q + 1) := by
  unfold cutTo
  apply List.ext_getElem?
  intro a
  rw [List.getElem?_set]
  by_cases e : q = a
  · subst e
    rw [if_pos rfl, if_pos (by rw [tri_len]; exact h), tri_get h]
    exact congrArg some (mk_ext fun j _ => by rw [if_pos (by omega)])
  · rw [if_neg e]
    by_cases ha : a < k + 1
    · rw [tri_get ha, tri_get ha]
      refine congrArg some (mk_ext fun j _ => ?_)
      by_cases h' : a < q
      · rw [if_pos h', if_pos (by omega)]
      · rw [if_neg h', if_neg (by omega)]
    · rw [List.getElem?_eq_none (by rw [tri_len]; omega), List.getElem?_eq_none (by rw [tri_len]; omega)]

set_option maxHeartbeats 1000000 in
set_option maxRecDepth 100000 in
theorem cutP_c (m M : Int) (n k : Nat) (v : Value) (t : List (List Int)) (w : World) (hv : RdT w v t) (ht : PlaT M n t) (h1 : 1 ≤ k) (hk : k + 1 ≤ n) (hn : n ≤ 100) :
    Calls Tryz.prog 59 #[.agg #[.int .i64 m, v], .int .i64 k] w fun e w' => PVEnd w w' m (cutT (k + 1) t) e := by
  obtain ⟨o, c, rfl, hmx, -⟩ := id hv
  rw [ht.1] at hmx ⊢
  have hv' : RdT w (.slice o n c) t := by rw [ht.1] at hv; exact hv
  obtain ⟨bx, fx, rfl, -⟩ := hv'.rows (by rw [ht.1]; omega)
  have HT := Lib.hid ht
  clear hv ht
  go_enter Tryz.func59, Tryz.ntmps59
  go_wp2_with fail
  (have X0 := ((RB2.mk1 w  (.int .i64 m) (.slice (some ⟨bx, fx, none⟩) n c) 31).1).below (w' := ((w.alloc (.cells #[.int .i64 m, .slice (some ⟨bx, fx, none⟩) n c] 31)).alloc (.cells #[.int .i64 0, .slice none 0 0] 31))) (by (repeat (first | exact bR _ _ | (refine bS ?_ _) | (refine bA ?_ _) | (refine bN ?_ _) | (refine bD ?_)))) (Nat.le_refl _); have R0 := ((RB2.mk2 w (.cells #[.int .i64 m, .slice (some ⟨bx, fx, none⟩) n c] 31) (.int .i64 0) (.slice none 0 0) 31)).below (w' := ((w.alloc (.cells #[.int .i64 m, .slice (some ⟨bx, fx, none⟩) n c] 31)).alloc (.cells #[.int .i64 0, .slice none 0 0] 31))) (by (repeat (first | exact bR _ _ | (refine bS ?_ _) | (refine bA ?_ _) | (refine bN ?_ _) | (refine bD ?_)))) (Nat.le_refl _); have B0 : Below w.heap.size w ((w.alloc (.cells #[.int .i64 m, .slice (some ⟨bx, fx, none⟩) n c] 31)).alloc (.cells #[.int .i64 0, .slice none 0 0] 31)) := (by (repeat (first | exact bR _ _ | (refine bS ?_ _) | (refine bA ?_ _) | (refine bN ?_ _) | (refine bD ?_)))); have hv'0 := hv'.below (w' := ((w.alloc (.cells #[.int .i64 m, .slice (some ⟨bx, fx, none⟩) n c] 31)).alloc (.cells #[.int .i64 0, .slice none 0 0] 31))) (by (repeat (first | exact bR _ _ | (refine bS ?_ _) | (refine bA ?_ _) | (refine bN ?_ _) | (refine bD ?_)))) (Nat.le_refl _); generalize (w.alloc (.cells #[.int .i64 m, .slice (some ⟨bx, fx, none⟩) n c] 31)).alloc (.cells #[.int .i64 0, .slice none 0 0] 31) = w0 at X0 R0 B0 hv'0 ⊢)
  refine (emptyPlane_c m (k : Int) (k + 1) _ (by omega) (by omega)).mono ?_
  rintro e w1 ⟨vz, rfl, how, hb1⟩
  obtain ⟨oT, cT, rfl⟩ := how.shapeN (n := k + 1) (zeroT_len _)
  have hb1s := hb1.size
  have R1 := R0.below hb1 (Nat.le_refl _)
  have X1 := X0.below hb1 (Nat.le_refl _)
  have B1 := B0.trans (hb1.mono B0.size)
  have hv1 := hv'0.below hb1 (Nat.le_refl _)
  have how := how.toR
  obtain ⟨us, how⟩ := how.named
  obtain ⟨gT, rfl, hg1, hg2⟩ := how.row (by omega)
  have B0s := B0.size
  have X0l := X0.lt
  have R0l := R0.1.lt
  have B1s := B1.size
  clear hb1 X0 R0 B0 hv'0
  go_wp2_with fail
  have O2 := Box2.mk' w1 (.int .i64 m) (.slice (some ⟨gT, 0, none⟩) (k + 1) cT) 31
  have hbA : Below w1.heap.size w1 (w1.alloc (.cells #[.int .i64 m, .slice (some ⟨gT, 0, none⟩) (k + 1) cT] 31)) := (by (repeat (first | exact bR _ _ | (refine bS ?_ _) | (refine bA ?_ _) | (refine bN ?_ _) | (refine bD ?_))))
  have R2 := R1.below hbA (Nat.le_refl _)
  have X2 := X1.below hbA (Nat.le_refl _)
  have B2 := B1.trans (hbA.mono B1s)
  have hv2 := hv1.below hbA (Nat.le_refl _)
  have hs2 : (w1.alloc (.cells #[.int .i64 m, .slice (some ⟨gT, 0, none⟩) (k + 1) cT] 31)).heap.size = w1.heap.size + 1 := by simp
  have how2 := how.stay (u' := w1.alloc (.cells #[.int .i64 m, .slice (some ⟨gT, 0, none⟩) (k + 1) cT] 31)) (fun j _ hj => hbA.block j (by omega))
  generalize w1.alloc (.cells #[.int .i64 m, .slice (some ⟨gT, 0, none⟩) (k + 1) cT] 31) = w2 at O2 R2 X2 B2 hv2 hs2 how2 ⊢
  clear hbA how R1 X1 B1 hv1
  rw [cutTo_0 k t] at how2
  obtain ⟨hi, hhi⟩ : ∃ hi, hi = w1.heap.size := ⟨_, rfl⟩
  obtain ⟨lo, hlo⟩ : ∃ lo, lo = w0.heap.size := ⟨_, rfl⟩
  rw [← hhi, ← hlo] at how2
  rw [← hhi] at hs2 hg2 O2 B1s hb1s ⊢
  rw [← hlo] at hg1 hb1s X0l R0l B0s
  clear hhi hlo
  have B2s := B2.size
  go_loopw [15] (fun i wr => ∃ q : Nat, q ≤ k + 1 ∧ i = .int .i64 q ∧ OwSU us lo hi wr (.slice (some ⟨gT, 0, none⟩) (k + 1) cT) (cutTo k t q) ∧ Chg lo hi w2 wr) (fun i _ => k + 1 - (intOf i).toNat)
  case atStart => exact ⟨0, Nat.zero_le _, rfl, how2, Chg.refl _ _ _⟩
  case round =>
    clear how2
    obtain ⟨q, hq, rfl, hO, hC⟩ := hrel
    have Bw := hC.below B2 (by omega) B2s
    have Xw := X2.chg hC (.inl (by omega))
    have Ow := O2.chg hC (.inr (by omega))
    have Rw := R2.chg hC (.inl (by omega))
    have hvw := hv'.below Bw (Nat.le_refl _)
    by_cases hql : q < k + 1
    · have i1 : (q : Int) < (k : Int) + 1 := by omega
      have i0 : (0 : Int) ≤ (q : Int) := by omega
      have i2 : (q : Int) < ((k + 1 : Nat) : Int) := by omega
      have i3 : (q : Int) < (n : Int) := by omega
      obtain ⟨x0, x1⟩ := id Xw
      obtain ⟨y0, y1⟩ := id Ow
      obtain ⟨rP, hrPe⟩ : ∃ rP, rP = mk (k + 1 - q) (fun b => if q < q then atT t q b else 0) := ⟨_, rfl⟩
      have hrP : (cutTo k t q)[q]? = some rP := by rw [hrPe]; exact tri_get hql
      have hrPl : rP.length = k + 1 - q := by rw [hrPe, mk_len]
      obtain ⟨oP, cP, huP, cxP, howP, hblP, hsetP⟩ := hO.at hrP
      rw [hrPl] at huP cxP howP hblP hsetP
      obtain ⟨gP, rfl, hgP1, hgP2⟩ := howP.row (by omega)
      have hgP3 := hblP gP rfl
      obtain ⟨rT, hrT, hrTl, hrTj⟩ := HT.out.row (show q < n by omega)
      obtain ⟨o2, c2, cy, ry⟩ := hvw.row hrT
      rw [hrTl] at cy ry
      obtain ⟨b2, f2, rfl, -⟩ := ry.cells (by omega)
      have HTk := Lib.hid (take_row HT.out hql (by omega) hrT)
      have HS := Lib.hid (cutTo_set (t := t) hql)
      have HSP := Lib.hid hsetP
      have HownP := Lib.hid howP
      have Hl := Lib.hid hrPl
      clear hsetP howP huP hblP hrP hrPe hrT hrTl hrTj hrPl
      obtain ⟨w4, hcp, hO3, hgr⟩ := run_cpI wr 3 lo gP (k + 1 - q) cP rP HownP.out b2 f2 (n - q) c2 rT ry (by omega)
      go_wp2_with fail
      rw [HTk.out] at hO3
      have hOn := HSP.out _ _ (mk_len _ _) hgr hO3
      rw [HS.out] at hOn
      have hCn := hC.grown hgr hgP3.1 hgP3.2.1
      exact ⟨⟨q + 1, by omega, by go_num, hOn, hCn⟩, by simp [intOf]; omega⟩
    · obtain rfl : q = k + 1 := by omega
      rw [cutTo_all] at hO
      have i1 : ¬ (((k + 1 : Nat) : Int) < (k : Int) + 1) := by omega
      obtain ⟨y0, y1⟩ := id Ow
      obtain ⟨⟨r0, r1⟩, rf⟩ := id Rw
      have hOs := hO.r.ow
      go_wp2
      refine bodyPost_ret (v := .agg #[.int .i64 m, .slice (some ⟨gT, 0, none⟩) (k + 1) cT]) (by simp [results, Tryz.results59, go_sem, r0, r1]) rfl ⟨_, rfl, ?_, ?_⟩
      · exact ((hOs.low (by omega) _).low (by omega) _).mono (by omega)
      · (repeat (first | exact bR _ _ | (refine bS ?_ _) | (refine bA ?_ _) | (refine bN ?_ _) | (refine bD ?_) | (refine bT ?_ Bw)))
end Go.Proofs.YtoednonijmkbjaaGreat
/- Lazard's cocycle as a table: the reference. -/
set_option linter.unusedSimpArgs false
set_option linter.unusedVariables false
namespace Go.Proofs.YtoednonijmkbjaaGreat
open Go.RowKit

def cocTo (m : Int) (n k : Nat) : List (List Int) := tri (n + 1) (fun i j => if i + j = n ∧ i < k then laz n i % m else 0)
def cocT (m : Int) (n : Nat) : List (List Int) := tri (n + 1) (fun i j => if i + j = n then laz n i % m else 0)
theorem laz_0 (n : Nat) : laz n 0 = 0 := by unfold laz; rw [if_neg (by omega)]
theorem cocTo_1 (m : Int) (n : Nat) : zeroT (n + 1) = cocTo m n 1 := tri_ext fun i j _ => by
  by_cases h : i + j = n ∧ i < 1
  · rw [if_pos h, show i = 0 by omega, laz_0, Int.zero_emod]
  · rw [if_neg h]
theorem cocTo_n (m : Int) (n : Nat) : cocTo m n n = cocT m n := tri_ext fun i j _ => by
  by_cases h : i + j = n
  · rw [if_pos h]
    by_cases h' : i < n
    · rw [if_pos ⟨h, h'⟩]
    · rw [if_neg (fun e => h' e.2), laz_out (by omega), Int.zero_emod]
  · rw [if_neg (fun e => h e.1), if_neg h]
theorem cocTo_set {m : Int} {n k : Nat} (hk : k < n) : (cocTo m n k).set k ((mk (n + 1 - k) (fun j => if k + j = n ∧ k < k then laz n k % m else 0)).set (n - k) (laz n k % m)) = cocTo m n (k + 1) := by
  unfold cocTo
  rw [tri_set (f := fun i j => if i + j = n ∧ i < k then laz n i % m else 0) (by omega)]
  refine tri_ext fun a b h => ?_
  by_cases e : a = k ∧ b = n - k
  · obtain ⟨rfl, rfl⟩ := e
    rw [if_pos ⟨rfl, rfl⟩, if_pos (by omega)]
  · rw [if_neg e]
    by_cases e2 : a + b = n ∧ a < k
    · rw [if_pos e2, if_pos (by omega)]
    · rw [if_neg e2, if_neg (by omega)]

set_option maxHeartbeats 1000000 in
set_option maxRecDepth 100000 in
theorem l07Cocycle_c (m : Int) (n : Nat) (w : World) (h2 : 2 ≤ n) (hn : n ≤ 10) (hm : 2 ≤ m) (hm' : m ≤ 10000) :
    Calls Tryz.prog 83 #[.int .i64 m, .int .i64 n] w fun e w' => ∃ v', e = .returned v' ∧ OwS w' w.heap.size v' (cocT m n) ∧ Below w.heap.size w w' := by
  go_enter Tryz.func83, Tryz.ntmps83
  go_wp2_with fail
  refine (l03Zero_c _ (n + 1) _ (by omega) (by omega)).mono ?_
  rintro e w1 ⟨v1, rfl, how, hb1⟩
  obtain ⟨oT, cT, rfl⟩ := how.shapeN (n := n + 1) (zeroT_len _)
  have hb1s := hb1.size
  go_wp2_with fail
  refine (l01Lazard_c n _ h2 hn).mono ?_
  rintro e w2 ⟨rfl, hb2⟩
  have hb2s := hb2.size
  have B2 := hb1.trans (hb2.mono hb1s)
  have how := how.toR
  obtain ⟨us, how⟩ := how.named
  have how := how.stay (u' := w2) (fun k _ hk => hb2.block k (by omega))
  obtain ⟨gT, rfl, hg1, hg2⟩ := how.row (by omega)
  rw [cocTo_1 m] at how
  obtain ⟨hi, hhi⟩ : ∃ hi, hi = w1.heap.size := ⟨_, rfl⟩
  rw [← hhi] at how hg2 hb2s hb1s
  obtain ⟨la1, la2⟩ := lam_range n h2 hn
  obtain ⟨L, hL⟩ : ∃ L, L = lam n := ⟨_, rfl⟩
  rw [← hL] at la1 la2 ⊢
  have HL := Lib.hid hL
  clear hL hb1 hb2 hhi
  have l1 : ¬ L = 0 := by omega
  have l2 : (L == 0) = false := by simp; omega
  have l3 : ¬ m = 0 := by omega
  have l4 : (m == 0) = false := by simp; omega
  go_wp2_with fail
  go_loopw [7] (fun i wr => ∃ k : Nat, 1 ≤ k ∧ k ≤ n ∧ i = .int .i64 k ∧ OwSU us w.heap.size hi wr (.slice (some ⟨gT, 0, none⟩) (n + 1) cT) (cocTo m n k) ∧ Below w.heap.size w wr ∧ hi ≤ wr.heap.size) (fun i _ => n - (intOf i).toNat)
  case atStart => exact ⟨1, Nat.le_refl _, by omega, rfl, how, B2, hb2s⟩
  case round =>
    clear how B2 hb2s
    obtain ⟨k, hk1, hk, rfl, hO, hB, hhw⟩ := hrel
    have hBs := hB.size
    by_cases hlt : k < n
    · have i1 : (k : Int) < (n : Int) := by omega
      have i2 : (0 : Int) ≤ (k : Int) := by omega
      have i3 : (k : Int) < (n : Int) + 1 := by omega
      have i4 : (k : Int) < ((n + 1 : Nat) : Int) := by omega
      have r2 := bin_r10 hn k
      have hq := laz_quo h2 hn hk1 hlt
      rw [← HL.out] at hq
      have q0 : 0 ≤ laz n k ∧ laz n k ≤ 1024 := laz_range h2 hn k
      have rq := mod_lt' (a := laz n k) (show 0 < m by omega)
      have e3 : IntKind.i64.wrap (laz n k) = laz n k := IntWalk.i64_in _ (by omega)
      have e4 : (laz n k).tmod m = laz n k % m := Int.tmod_eq_emod_of_nonneg q0.1
      have e5 : IntKind.i64.wrap ((n : Int) - (k : Int)) = ((n - k : Nat) : Int) := by rw [IntWalk.i64_in _ (by omega)]; omega
      have HS := Lib.hid (cocTo_set (m := m) hlt)
      have hrP : (cocTo m n k)[k]? = some (mk (n + 1 - k) (fun j => if k + j = n ∧ k < k then laz n k % m else 0)) := tri_get (by omega)
      obtain ⟨rP, hrPe⟩ : ∃ rP, rP = mk (n + 1 - k) (fun j => if k + j = n ∧ k < k then laz n k % m else 0) := ⟨_, rfl⟩
      rw [← hrPe] at HS hrP
      have hrPl : rP.length = n + 1 - k := by rw [hrPe, mk_len]
      have Hlen := Lib.hid hrPl
      clear hrPe
      obtain ⟨oP, cP, huP, cxP, -, hblP, -⟩ := hO.at hrP
      rw [hrPl] at cxP
      go_wp2_with fail
      refine (l01Binomial_c n k _ (by omega) hn).mono ?_
      rintro e w4 ⟨rfl, hb4⟩
      have hO4 := hO.stay (u' := w4) (fun k _ hk => hb4.block k (by omega))
      have hb4s := hb4.size
      have B4 := hB.trans (hb4.mono hBs)
      obtain ⟨oQ, cQ, huQ, cxQ, howP, hblQ, hsetP⟩ := hO4.at hrP
      obtain ⟨rfl, rfl⟩ : oP = oQ ∧ cP = cQ := by rw [huP] at huQ; simp at huQ; exact huQ
      rw [hrPl] at howP hblQ hsetP cxQ
      obtain ⟨gP, rfl, hgP1, hgP2⟩ := howP.row (by omega)
      have hgP3 := hblQ gP rfl
      have hfP := howP.fz (n - k)
      have hcP := howP.cell (k := n - k) (some_at0 (by omega))
      have HSP := Lib.hid hsetP
      have HownP := Lib.hid howP
      clear hsetP howP huP hblP hrP hrPl huQ hO hO4 cxP
      have j5 : ((n - k : Nat) : Int) < ((n + 1 - k : Nat) : Int) := by omega
      have j6 : n - k < n + 1 - k := by omega
      go_wp2_with fail
      have hg0 := gr_put (World.grownBy.refl w4 (some gP)) (n - k) (.int .i64 (laz n k % m))
      have hOn := HSP.out _ _ (by rw [List.length_set, Hlen.out]) hg0 (HownP.out.put (n - k) (laz n k % m))
      rw [HS.out] at hOn
      have hBn := below_put B4 (g := gP) (k := n - k) (by omega) (.int .i64 (laz n k % m))
      exact ⟨⟨k + 1, by omega, by omega, by go_num, hOn, hBn, by simp; omega⟩, by simp [intOf]; omega⟩
    · obtain rfl : k = n := by omega
      rw [cocTo_n] at hO
      have hOs := hO.r.ow
      have i1 : ¬ (k : Int) < (k : Int) := by omega
      go_wp2
      go_ret
      exact ⟨_, rfl, hOs, hB⟩
end Go.Proofs.YtoednonijmkbjaaGreat

/- The factor of a cocycle: the reference's search. -/
set_option linter.unusedSimpArgs false
set_option linter.unusedVariables false
namespace Go.Proofs.YtoednonijmkbjaaGreat
open Go.RowKit

theorem int_beq_comm (a b : Int) : (a == b) = (b == a) := by rw [Bool.eq_iff_iff]; simp only [beq_iff_eq]; exact eq_comm

set_option maxHeartbeats 2000000 in
set_option maxRecDepth 100000 in
theorem l07Factor_c (m : Int) (n : Nat) (v : Value) (t : List (List Int)) (w : World) (hv : RdT w v t) (ht : PlaT m (n + 1) t) (h2 : 2 ≤ n) (hn : n ≤ 10) (hm : 2 ≤ m) (hm' : m ≤ 10000) :
    Calls Tryz.prog 45 #[.int .i64 m, v] w fun e w' => e = .returned (.int .i64 (facTo m (laz n) (fun i => atT t i (n - i)) (n + 1) m.toNat)) ∧ Below w.heap.size w w' := by
  obtain ⟨M, rfl⟩ : ∃ M : Nat, m = M := ⟨m.toNat, by omega⟩
  obtain ⟨o, cv, rfl, hmx, -⟩ := id hv
  have hl := ht.1
  rw [hl] at hmx ⊢
  have hv' : RdT w (.slice o (n + 1) cv) t := by rw [hl] at hv; exact hv
  obtain ⟨bv, fv, rfl, -⟩ := hv'.rows (by omega)
  have HT := Lib.hid ht
  clear hv hl ht
  obtain ⟨D, hD⟩ : ∃ D, D = fun i => atT t i (n - i) := ⟨_, rfl⟩
  have HD := Lib.hid hD
  rw [← hD]
  clear hD
  go_enter Tryz.func45, Tryz.ntmps45
  go_wp2_with fail
  refine (l07Cocycle_c M n w h2 hn hm hm').mono ?_
  rintro e w1 ⟨vc, rfl, hO, hb1⟩
  obtain ⟨oc, cc, rfl⟩ := hO.shapeN (n := n + 1) (tri_len _ _)
  obtain ⟨gc, rfl, -, -⟩ := hO.row (by omega)
  have hC := hO.rd
  have hV := hv'.below hb1 (Nat.le_refl _)
  clear hv' hO
  go_wp2_with fail
  go_loopw [7] (fun i wr => ∃ (k : Nat) (d : Nat), k ≤ M ∧ i = .int .i64 k ∧ wr = w1.drewN d ∧ Hid (facTo M (laz n) D (n + 1) k = -1)) (fun i _ => M - (intOf i).toNat)
  case atStart => exact ⟨0, 0, Nat.zero_le _, rfl, rfl, Lib.hid rfl⟩
  case round =>
    obtain ⟨k, dr, hk, rfl, rfl, HK⟩ := hrel
    by_cases hlt : k < M
    · have i0 : (k : Int) < (M : Int) := by omega
      go_wp2_with fail
      go_loopw [8, 9] (fun f i wr => ∃ (q : Nat) (d : Nat), q ≤ n + 1 ∧ i = .int .i64 q ∧ f = .bool (fitTo M (laz n) D k q) ∧ wr = w1.drewN d) (fun _ i _ => n + 1 - (intOf i).toNat)
      case atStart => exact ⟨0, dr, Nat.zero_le _, rfl, rfl, rfl⟩
      case round =>
        obtain ⟨q, dq, hq, rfl, rfl, rfl⟩ := hrel
        by_cases hql : q < n + 1
        · have i1 : (q : Int) ≤ (n : Int) := by omega
          cases hB : fitTo M (laz n) D k q
          · have hF : fitTo M (laz n) D k (n + 1) = false := by
              have := fitTo_f hB (n + 1 - q)
              rwa [show q + (n + 1 - q) = n + 1 by omega] at this
            have HB := Lib.hid (facTo_f HK.out hF)
            go_wp2
            exact ⟨⟨k + 1, _, by omega, by go_num, rfl, HB⟩, by simp [intOf]; omega⟩
          · have i2 : (0 : Int) ≤ (q : Int) := by omega
            have i3 : (q : Int) < ((n + 1 : Nat) : Int) := by omega
            have i4 : (q : Int) < (n : Int) + 1 := by omega
            have i5 : ((n - q : Nat) : Int) < ((n + 1 - q : Nat) : Int) := by omega
            have i6 : (0 : Int) ≤ ((n - q : Nat) : Int) := by omega
            obtain ⟨o1, c1, cx, rx⟩ := hC.row (tri_get (f := fun i j => if i + j = n then laz n i % (M : Int) else 0) hql)
            rw [mk_len, Nat.zero_add] at cx
            rw [mk_len] at rx
            obtain ⟨b1, f1, rfl, -⟩ := rx.cells (by rw [mk_len]; omega)
            have ex := rx.cell0 (mk_get (f := fun j => if q + j = n then laz n q % (M : Int) else 0) (show n - q < n + 1 - q by omega))
            rw [if_pos (by omega)] at ex
            obtain ⟨rT, hrT, hrTl, hrTj⟩ := HT.out.row hql
            obtain ⟨o2, c2, cy, ry⟩ := hV.row hrT
            rw [hrTl] at cy ry
            obtain ⟨b2, f2, rfl, -⟩ := ry.cells (by omega)
            have ey := ry.cell0 (hrTj (n - q) (by omega))
            have rt := tab_range HT.out (show q + (n - q) < n + 1 by omega)
            have hDq : D q = atT t q (n - q) := by rw [HD.out]
            rw [← hDq] at ey rt
            have rl := laz_range h2 hn q
            have rm := mod_lt' (a := laz n q) (show 0 < (M : Int) by omega)
            have m0 : ((M : Int) == 0) = false := by simp; omega
            have m1 : ¬ (M : Int) = 0 := by omega
            have hp : 0 ≤ (k : Int) * (laz n q % (M : Int)) ∧ (k : Int) * (laz n q % (M : Int)) ≤ 10000 * 10000 := ⟨Int.mul_nonneg (by omega) rm.1, Int.mul_le_mul (by omega) (by omega) rm.1 (by omega)⟩
            have e2 : IntKind.i64.wrap ((k : Int) * (laz n q % (M : Int))) = (k : Int) * (laz n q % (M : Int)) := IntWalk.i64_in _ (by omega)
            have e3 : ((k : Int) * (laz n q % (M : Int))).tmod (M : Int) = (k : Int) * (laz n q % (M : Int)) % (M : Int) := Int.tmod_eq_emod_of_nonneg hp.1
            have e5 : IntKind.i64.wrap ((n : Int) - (q : Int)) = ((n - q : Nat) : Int) := by rw [IntWalk.i64_in _ (by omega)]; omega
            have HF : Hid (fitTo M (laz n) D k (q + 1) = ((k : Int) * (laz n q % (M : Int)) % (M : Int) == D q)) := Lib.hid (by
              show (fitTo M (laz n) D k q && (D q % (M : Int) == (k : Int) * (laz n q % (M : Int)) % (M : Int))) = _
              rw [hB, Int.emod_eq_of_lt rt.1 rt.2, int_beq_comm]; rfl)
            clear hrT hrTl hrTj hDq
            generalize D q = x at ey rt HF
            generalize laz n q = y at ex rl rm hp e2 e3 HF
            generalize hY : y % (M : Int) = Y at ex rm hp e2 e3 HF
            clear hY
            go_wp2_with fail
            go_quiet (fail)
            go_wp2
            exact ⟨⟨q + 1, _, by omega, by go_num, by rw [HF.out], (by first | rfl | (simp [World.drewN_drewN]; done))⟩, by simp [intOf]; omega⟩
        · obtain rfl : q = n + 1 := by omega
          have i1 : ¬ ((n + 1 : Nat) : Int) ≤ (n : Int) := by omega
          have i1' : ¬ ((n : Int) + 1) ≤ (n : Int) := by omega
          cases hB : fitTo M (laz n) D k (n + 1)
          · have HB := Lib.hid (facTo_f HK.out hB)
            go_wp2
            exact ⟨⟨k + 1, _, by omega, by go_num, rfl, HB⟩, by simp [intOf]; omega⟩
          · have HB := Lib.hid (facTo_end (M := M) HK.out hB (by omega))
            go_wp2
            go_ret
            exact ⟨by rw [HB.out]; rfl, (by (repeat (first | exact bR _ _ | (refine bS ?_ _) | (refine bA ?_ _) | (refine bN ?_ _) | (refine bD ?_) | (refine bT ?_ hb1))))⟩
    · obtain rfl : k = M := by omega
      have i1 : ¬ (k : Int) < (k : Int) := by omega
      go_wp2
      go_ret
      exact ⟨by rw [HK.out]; rfl, (by (repeat (first | exact bR _ _ | (refine bS ?_ _) | (refine bA ?_ _) | (refine bN ?_ _) | (refine bD ?_) | (refine bT ?_ hb1))))⟩
end Go.Proofs.YtoednonijmkbjaaGreat
set_option linter.unusedSimpArgs false
set_option linter.unusedVariables false
namespace Go.Proofs.YtoednonijmkbjaaGreat
open Go.RowKit

def topL (n : Nat) (t : List (List Int)) (k : Nat) : List Int := mk k (fun i => atT t i (n - i))
set_option maxHeartbeats 1000000 in
set_option maxRecDepth 100000 in
theorem topP_c (m M : Int) (n : Nat) (v : Value) (t : List (List Int)) (w : World) (hv : RdT w v t) (ht : PlaT M (n + 1) t) (hn : n ≤ 100) :
    Calls Tryz.prog 60 #[.agg #[.int .i64 m, v]] w fun e w' => ∃ v', e = .returned v' ∧ OwI w' w.heap.size v' (topL n t (n + 1)) ∧ Below w.heap.size w w' := by
  obtain ⟨o, c, rfl, hmx, -⟩ := id hv
  rw [ht.1] at hmx ⊢
  have hv' : RdT w (.slice o (n + 1) c) t := by rw [ht.1] at hv; exact hv
  obtain ⟨bx, fx, rfl, -⟩ := hv'.rows (by rw [ht.1]; omega)
  have HT := Lib.hid ht
  clear hv ht
  go_enter Tryz.func60, Tryz.ntmps60
  go_wp2_with fail
  have X0 := Box2.mk' w (.int .i64 m) (.slice (some ⟨bx, fx, none⟩) (n + 1) c) 31
  have B0 : Below w.heap.size w (w.alloc (.cells #[.int .i64 m, .slice (some ⟨bx, fx, none⟩) (n + 1) c] 31)) := (by (repeat (first | exact bR _ _ | (refine bS ?_ _) | (refine bA ?_ _) | (refine bN ?_ _) | (refine bD ?_))))
  have hsz : (w.alloc (.cells #[.int .i64 m, .slice (some ⟨bx, fx, none⟩) (n + 1) c] 31)).heap.size = w.heap.size + 1 := by simp
  have hv0 := hv'.below B0 (Nat.le_refl _)
  generalize w.alloc (.cells #[.int .i64 m, .slice (some ⟨bx, fx, none⟩) (n + 1) c] 31) = w0 at X0 B0 hsz hv0 ⊢
  rw [← hsz]
  have HSZ := Lib.hid hsz
  clear hsz
  refine (degreeP_c m (some ⟨bx, fx, none⟩) (n + 1) c _ hmx.1).mono ?_
  rintro e w2 ⟨rfl, hb2⟩
  have hbA : Below w0.heap.size w0 (w0.alloc (.cells #[] 2)) := (by (repeat (first | exact bR _ _ | (refine bS ?_ _) | (refine bA ?_ _) | (refine bN ?_ _) | (refine bD ?_))))
  have O1 := OwI.lit w0 [] (by decide)
  have O2 := O1.below hb2
  simp at O2
  have hB2 := hbA.trans (hb2.mono hbA.size)
  rw [show ([] : List Int) = topL n t 0 from rfl] at O2
  have hs0 := B0.size
  clear O1 hbA hb2 hv'
  have e0 : IntKind.i64.wrap ((n : Int) + 1) = (n : Int) + 1 := IntWalk.i64_in _ (by omega)
  skip
  go_wp2_with fail
  go_loopw [3, 11] (fun s i wr => ∃ k : Nat, k ≤ n + 1 ∧ i = .int .i64 k ∧ OwI wr w0.heap.size s (topL n t k) ∧ Below w0.heap.size w0 wr) (fun _ i _ => n + 1 - (intOf i).toNat)
  case atStart => exact ⟨0, Nat.zero_le _, rfl, O2, hB2⟩
  case round =>
    clear O2 hB2
    obtain ⟨k, hk, rfl, hO, hB⟩ := hrel
    obtain ⟨ov, cv, rfl⟩ := hO.shapeN (n := k) (mk_len _ _)
    have hBs := hB.size
    by_cases hlt : k < n + 1
    · have i1 : (k : Int) < (n : Int) + 1 := by omega
      have i2 : (0 : Int) ≤ (k : Int) := by omega
      have i3 : (k : Int) < ((n + 1 : Nat) : Int) := by omega
      have i5 : ((n - k : Nat) : Int) < ((n + 1 - k : Nat) : Int) := by omega
      have Xr := X0.below hB (Nat.le_refl _)
      obtain ⟨x0, x1⟩ := id Xr
      have hvr := hv0.below hB (Nat.le_refl _)
      obtain ⟨rT, hrT, hrTl, hrTj⟩ := HT.out.row hlt
      obtain ⟨o2, c2, cy, ry⟩ := hvr.row hrT
      rw [hrTl] at cy ry
      obtain ⟨b2, f2, rfl, -⟩ := ry.cells (by omega)
      have ey := ry.cell0 (hrTj (n - k) (by omega))
      have e5 : IntKind.i64.wrap ((n : Int) - (k : Int)) = ((n - k : Nat) : Int) := by rw [IntWalk.i64_in _ (by omega)]; omega
      have HS := Lib.hid (show topL n t (k + 1) = topL n t k ++ [atT t k (n - k)] from mk_snoc _ _)
      clear hrT hrTl hrTj
      go_wp2_with (at_builtin; refine apI wr rfl _ _ rfl w0.heap.size (.slice ov k cv) _ rfl hO _ rfl (by unfold topL; rw [mk_len]; omega) (by omega) ?_; intro v' w4 hO3 hgr hb3 hlt3; clear hgr)
      rw [← HS.out] at hO3
      exact ⟨⟨k + 1, by omega, by go_num, hO3, hB.trans hb3⟩, by simp [intOf]; omega⟩
    · obtain rfl : k = n + 1 := by omega
      have i1 : ¬ (((n + 1 : Nat) : Int) < (n : Int) + 1) := by omega
      go_wp2
      go_ret
      exact ⟨_, rfl, hO.mono (by omega), B0.trans (hB.mono hs0)⟩

set_option maxHeartbeats 1000000 in
set_option maxRecDepth 100000 in
theorem l07Gap_c (m : Int) (n : Nat) (v u : Value) (t s : List (List Int)) (w : World) (hv : RdT w v t) (hu : RdT w u s) (hn : n ≤ 100) (hm : 2 ≤ m) (hm' : m ≤ 10000) (ht : PlaT m n t) (hs : PlaT m n s) :
    Calls Tryz.prog 46 #[.int .i64 m, v, u] w fun e w' => ∃ v', e = .returned v' ∧ OwS w' w.heap.size v' (tri n (fun i j => (atT s i j - atT t i j) % m)) ∧ Below w.heap.size w w' := by
  have e1 : IntKind.i64.wrap (m - 1) = m - 1 := IntWalk.i64_in _ (by omega)
  go_enter Tryz.func46, Tryz.ntmps46
  go_wp2_with fail
  refine (l03Scale_c m (m - 1) v t w hv hm (by omega) (by omega) (by omega) (by rw [ht.1]; omega) ht.2).mono ?_
  rintro e w1 ⟨v1, rfl, how, hb1⟩
  have hb1s := hb1.size
  have hl1 := ht.1
  have hl2 := hs.1
  have hu1 := hu.below hb1 (Nat.le_refl _)
  go_wp2_with fail
  refine (l03Add_c m u v1 s (scaT m t.length (m - 1) t) w1 hu1 how.rd hm (by omega) (by omega) (by unfold scaT; rw [tri_len]; omega) hs.2 (fun i hi => ?_)).mono ?_
  · have h := (show PlaT m t.length (scaT m t.length (m - 1) t) from tri_ok fun _ _ _ => mod_lt' (by omega))
    have h2 := h.2 i hi
    exact h2
  rintro e w2 ⟨v2, rfl, how2, hb2⟩
  have HE := Lib.hid (show addT m s.length s (scaT m t.length (m - 1) t) = tri n (fun i j => (atT s i j - atT t i j) % m) by
    rw [hl1, hl2]
    refine tri_ext fun i j h => ?_
    unfold scaT
    rw [atT_tri h]
    refine (emod_congr_add (rfl : atT s i j % m = _) (mod_self_mod _ _)).trans ?_
    rw [Int.sub_mul, Int.one_mul, show atT s i j + (m * atT t i j - atT t i j) = (atT s i j - atT t i j) + m * atT t i j by omega, Int.add_mul_emod_self_left])
  rw [HE.out] at how2
  go_wp2
  go_ret
  exact ⟨_, rfl, how2.mono hb1s, hb1.trans (hb2.mono hb1s)⟩
end Go.Proofs.YtoednonijmkbjaaGreat
