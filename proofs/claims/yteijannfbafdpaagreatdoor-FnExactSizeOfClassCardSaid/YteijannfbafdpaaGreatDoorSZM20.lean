/- Lemmas. -/
import Derived.Test.YteijannfbafdpaaGreatDoorSZM18
import Derived.Test.YteijannfbafdpaaGreatDoorSZG2
import Derived.Test.YteijannfbafdpaaGreatDoorSZM14
import Derived.Test.YteijannfbafdpaaGreatDoorSZG5
import Derived.Test.YteijannfbafdpaaGreatDoorSZM15
import Derived.Test.YteijannfbafdpaaGreatDoorSZM11
import Derived.Test.YteijannfbafdpaaGreatDoorSZHomP
import Derived.Test.YteijannfbafdpaaGreatDoorSZM10
import Derived.Test.YteijannfbafdpaaGreatDoorSZG3
import Derived.Test.YteijannfbafdpaaGreatDoorSZM8
set_option linter.unusedSimpArgs false
set_option linter.unusedVariables false
namespace Go.Proofs.YteijannfbafdpaaGreatDoor
open Go.RowKit

structure BR where
  val : Bool
  code : Int
end Go.Proofs.YteijannfbafdpaaGreatDoor
set_option linter.unusedSimpArgs false
set_option linter.unusedVariables false
namespace Go.Proofs.YteijannfbafdpaaGreatDoor
open Go.RowKit

structure TR where
  xss : List (List Int)
  code : Int
end Go.Proofs.YteijannfbafdpaaGreatDoor
set_option linter.unusedSimpArgs false
set_option linter.unusedVariables false
namespace Go.Proofs.YteijannfbafdpaaGreatDoor
open Go.RowKit
open Rg

def digs (m : Nat) : Nat → Nat → List Int
  | 0, _ => []
  | k + 1, n => digs m k (n / m) ++ [((n % m : Nat) : Int)]
theorem digs_len (m : Nat) : ∀ k n, (digs m k n).length = k
  | 0, _ => rfl
  | k + 1, n => by rw [digs, List.length_append, digs_len m k]; rfl
theorem digs_range {m : Nat} (hm : 0 < m) : ∀ k n, ∀ x ∈ digs m k n, 0 ≤ x ∧ x < (m : Int)
  | 0, _, x, h => by simp [digs] at h
  | k + 1, n, x, h => by
    rw [digs, List.mem_append] at h
    rcases h with h | h
    · exact digs_range hm k _ x h
    · simp at h
      have := Nat.mod_lt n hm
      omega
theorem digs_top {m : Nat} (hm : 0 < m) {i : Nat} (hi : i < m) : ∀ (k r : Nat), r < m ^ k → digs m (k + 1) (i * m ^ k + r) = (i : Int) :: digs m k r
  | 0, r, hr => by
    have : r = 0 := by simpa using hr
    subst this
    simp only [digs, Nat.pow_zero, Nat.mul_one, Nat.add_zero, List.nil_append]
    rw [Nat.mod_eq_of_lt hi]
  | k + 1, r, hr => by
    have e1 : (i * m ^ (k + 1) + r) / m = i * m ^ k + r / m := by
      rw [Nat.pow_succ, ← Nat.mul_assoc, Nat.mul_comm _ m, Nat.mul_add_div hm]
    have e2 : (i * m ^ (k + 1) + r) % m = r % m := by
      rw [Nat.pow_succ, ← Nat.mul_assoc, Nat.mul_comm _ m, Nat.mul_add_mod]
    have h3 : r / m < m ^ k := (Nat.div_lt_iff_lt_mul hm).2 (by rw [← Nat.pow_succ]; exact hr)
    rw [show digs m (k + 1 + 1) (i * m ^ (k + 1) + r) = digs m (k + 1) ((i * m ^ (k + 1) + r) / m) ++ [(((i * m ^ (k + 1) + r) % m : Nat) : Int)] from rfl, e1, e2, digs_top hm hi k (r / m) h3]
    rfl
theorem range_mul (a b : Nat) : List.range (a * b) = (List.range a).flatMap (fun x => (List.range b).map (fun r => x * b + r)) := by
  induction a with
  | zero => simp
  | succ a ih => rw [List.range_succ, List.flatMap_append, ← ih, Nat.succ_mul, List.range_add]; simp
theorem allC_digs {m : Nat} (hm : 0 < m) : ∀ (k : Nat) (pre : List Int), allC m k pre = (List.range (m ^ k)).map (fun n => pre ++ digs m k n)
  | 0, pre => by simp [allC, digs]
  | k + 1, pre => by
    rw [Nat.pow_succ, Nat.mul_comm, range_mul, List.map_flatMap]
    unfold allC
    have : ∀ x ∈ List.range m, allC m k (pre ++ [(x : Int)]) = ((List.range (m ^ k)).map (fun r => x * m ^ k + r)).map (fun n => pre ++ digs m (k + 1) n) := by
      intro x hx
      rw [allC_digs hm k, List.map_map]
      refine List.map_congr_left fun r hr => ?_
      show _ = pre ++ digs m (k + 1) (x * m ^ k + r)
      rw [digs_top hm (List.mem_range.1 hx) k r (List.mem_range.1 hr)]
      simp
    rw [List.flatMap_def, List.flatMap_def, List.map_congr_left this]
def l11R (m : Int) (t : List (List Int)) : Int := if lawB m t then (if t.length = 2 then 5 else if 300 < m ^ (t.length - 2) then 3 else 0) else 1
end Go.Proofs.YteijannfbafdpaaGreatDoor
set_option linter.unusedSimpArgs false
set_option linter.unusedVariables false
namespace Go.Proofs.YteijannfbafdpaaGreatDoor
open Rg

structure AllOK (m : Int) (N : Nat) (A : List (List (List Int))) : Prop where
  len : A.length = m.toNat ^ (N - 2)
  ok : ∀ t ∈ A, PlaT m N t
  has : ∀ g, PlaT m N g → Lw m N (atT g) → g ∈ A
theorem allOK_2 {m : Int} (hm : 2 ≤ m) : AllOK m 2 [[[0, 1], [1]]] := by
  have h2 : ([[0, 1], [1]] : List (List Int)) = tri 2 (fun i j => if i + j = 1 then 1 else 0) := by decide
  refine ⟨by simp, fun t ht => ?_, fun g hg L => ?_⟩
  · obtain rfl := List.mem_singleton.1 ht
    rw [h2]
    exact tri_ok fun i j _ => by split <;> omega
  · rw [List.mem_singleton, h2]
    refine tab_eq hg (tri_ok fun i j _ => by split <;> omega) (eqv2.2 fun i j h => ?_)
    rw [atT_tri h]
    obtain ⟨rfl, rfl⟩ | ⟨rfl, rfl⟩ | ⟨rfl, rfl⟩ : (i = 0 ∧ j = 0) ∨ (i = 1 ∧ j = 0) ∨ (i = 0 ∧ j = 1) := by omega
    · rw [L.zer]; rfl
    · rw [L.un 1 (by omega)]
      try rfl
    · rw [L.sy 0 1 (by omega), L.un 1 (by omega)]
      try rfl
structure Nxt (m : Int) (N : Nat) (A : List (List (List Int))) (K : Nat) (B : List (List (List Int))) : Prop where
  len : B.length = K * m.toNat
  ok : ∀ t ∈ B, PlaT m (N + 1) t
  has : ∀ k, k < K → ∀ t, A[k]? = some t → ∃ s, FirOK m N t s ∧ ∀ x : Nat, (x : Int) < m → addT m (N + 1) s (scaT m (N + 1) x (cocT m N)) ∈ B
theorem Nxt.start (m : Int) (N : Nat) (A : List (List (List Int))) : Nxt m N A 0 [] := ⟨by simp, fun t ht => by simp at ht, fun k hk => by omega⟩
structure NxtX (m : Int) (N : Nat) (A : List (List (List Int))) (K : Nat) (s : List (List Int)) (X : Nat) (B : List (List (List Int))) : Prop where
  len : B.length = K * m.toNat + X
  ok : ∀ t ∈ B, PlaT m (N + 1) t
  has : ∀ k, k < K → ∀ t, A[k]? = some t → ∃ s, FirOK m N t s ∧ ∀ x : Nat, (x : Int) < m → addT m (N + 1) s (scaT m (N + 1) x (cocT m N)) ∈ B
  now : ∀ x : Nat, x < X → addT m (N + 1) s (scaT m (N + 1) x (cocT m N)) ∈ B
theorem Nxt.x {m : Int} {N : Nat} {A B : List (List (List Int))} {K : Nat} (h : Nxt m N A K B) (s : List (List Int)) : NxtX m N A K s 0 B := ⟨h.len, h.ok, h.has, fun x hx => by omega⟩
theorem NxtX.snoc {m : Int} {N : Nat} {A B : List (List (List Int))} {K : Nat} {s : List (List Int)} {X : Nat} (hm : 0 < m) (h : NxtX m N A K s X B) : NxtX m N A K s (X + 1) (B ++ [addT m (N + 1) s (scaT m (N + 1) X (cocT m N))]) := by
  refine ⟨by rw [List.length_append, h.len]; rfl, fun t ht => ?_, fun k hk t ht => ?_, fun x hx => ?_⟩
  · rcases List.mem_append.1 ht with ht | ht
    · exact h.ok t ht
    · obtain rfl := List.mem_singleton.1 ht
      exact addT_ok hm _ _ _
  · obtain ⟨s', h1, h2⟩ := h.has k hk t ht
    exact ⟨s', h1, fun x hx => List.mem_append_left _ (h2 x hx)⟩
  · rcases Nat.lt_or_ge x X with h' | h'
    · exact List.mem_append_left _ (h.now x h')
    · obtain rfl : x = X := by omega
      exact List.mem_append_right _ (List.mem_singleton.2 rfl)
theorem NxtX.all {m : Int} {N : Nat} {A B : List (List (List Int))} {K : Nat} {t s : List (List Int)} (h : NxtX m N A K s m.toNat B) (ht : A[K]? = some t) (hs : FirOK m N t s) : Nxt m N A (K + 1) B := by
  refine ⟨by rw [h.len, Nat.succ_mul], h.ok, fun k hk t' ht' => ?_⟩
  rcases Nat.lt_or_ge k K with h' | h'
  · exact h.has k h' t' ht'
  · obtain rfl : k = K := by omega
    obtain rfl : t' = t := by rw [ht] at ht'; exact (Option.some.inj ht').symm
    exact ⟨s, hs, fun x hx => h.now x (by omega)⟩
theorem AllOK.next {m : Int} {N : Nat} {A B : List (List (List Int))} (hN : 2 ≤ N) (h : AllOK m N A) (hn : Nxt m N A A.length B) : AllOK m (N + 1) B := by
  refine ⟨by rw [hn.len, h.len, show N + 1 - 2 = N - 2 + 1 by omega, Nat.pow_succ], hn.ok, fun g hg L => ?_⟩
  have h1 := h.has (cutT N g) (cutT_ok hg (by omega)) (cutT_lw L hN (by omega))
  obtain ⟨k, hk, he⟩ := List.mem_iff_getElem.1 h1
  obtain ⟨s, hs, hx⟩ := hn.has k hk (cutT N g) (by rw [List.getElem?_eq_getElem hk, he])
  obtain ⟨x, x1, rfl⟩ := hs.2 g hg L (fun i j hij => cutT_at hij)
  exact hx x x1

def disN {α : Type} [DecidableEq α] (f : Nat → α) : Nat → Nat
  | 0 => 0
  | k + 1 => disN f k + if f k ∈ (List.range k).map f then 0 else 1
theorem disN_congr {α β : Type} [DecidableEq α] [DecidableEq β] {f : Nat → α} {g : Nat → β} : ∀ {k : Nat}, (∀ i j, i < k → j < k → (f i = f j ↔ g i = g j)) → disN f k = disN g k
  | 0, _ => rfl
  | k + 1, h => by
    show disN f k + _ = disN g k + _
    rw [disN_congr fun i j hi hj => h i j (by omega) (by omega)]
    have e : f k ∈ (List.range k).map f ↔ g k ∈ (List.range k).map g := by
      simp only [List.mem_map, List.mem_range]
      constructor
      · rintro ⟨i, hi, he⟩; exact ⟨i, hi, (h i k (by omega) (by omega)).1 he⟩
      · rintro ⟨i, hi, he⟩; exact ⟨i, hi, (h i k (by omega) (by omega)).2 he⟩
    by_cases hh : f k ∈ (List.range k).map f
    · rw [if_pos hh, if_pos (e.1 hh)]
    · rw [if_neg hh, if_neg (fun x => hh (e.2 x))]
def mrk (K : Nat) (f : Nat → Nat) (n : Nat) : List Int := mk K (fun j => if j ∈ (List.range n).map f then 1 else 0)
theorem mrk_len (K : Nat) (f : Nat → Nat) (n : Nat) : (mrk K f n).length = K := mk_len _ _
theorem mrk_0 (K : Nat) (f : Nat → Nat) : List.replicate K 0 = mrk K f 0 := by
  rw [mk_zero]; exact mk_ext fun j _ => by simp
theorem mrk_set (K : Nat) (f : Nat → Nat) (n : Nat) : (mrk K f n).set (f n) 1 = mrk K f (n + 1) := by
  unfold mrk
  rw [mk_set]
  refine mk_ext fun j _ => ?_
  rw [List.range_succ, List.map_append]
  by_cases h : j = f n
  · rw [if_pos h, if_pos (List.mem_append_right _ (by rw [h]; simp))]
  · rw [if_neg h]
    by_cases h2 : j ∈ (List.range n).map f
    · rw [if_pos h2, if_pos (List.mem_append_left _ h2)]
    · rw [if_neg h2, if_neg (fun e => by
        rcases List.mem_append.1 e with e | e
        · exact h2 e
        · simp at e; exact h e)]
theorem mrk_range (K : Nat) (f : Nat → Nat) (n : Nat) (j : Nat) : at0 (mrk K f n) j = 0 ∨ at0 (mrk K f n) j = 1 := by
  unfold mrk
  by_cases hj : j < K
  · rw [mk_at hj]
    by_cases h : j ∈ (List.range n).map f
    · rw [if_pos h]; exact .inr rfl
    · rw [if_neg h]; exact .inl rfl
  · rw [mk_out (by omega)]; exact .inl rfl
theorem mrk_sum {K : Nat} {f : Nat → Nat} : ∀ {n : Nat}, (∀ i, i < n → f i < K) → sumN K (at0 (mrk K f n)) = (disN f n : Int)
  | 0, _ => by
    rw [sumN_zero fun i _ => by rw [← mrk_0]; exact at0_rep _ _]; rfl
  | n + 1, h => by
    have ih := mrk_sum (f := f) (n := n) fun i hi => h i (by omega)
    have hk := h n (by omega)
    have key : ∀ L, sumN L (at0 (mrk K f (n + 1))) = sumN L (at0 (mrk K f n)) + if f n < L then (1 - at0 (mrk K f n) (f n)) else 0 := by
      intro L
      induction L with
      | zero => rw [if_neg (by omega)]; rfl
      | succ L ihL =>
        show sumN L _ + at0 (mrk K f (n + 1)) L = sumN L _ + at0 (mrk K f n) L + _
        rw [ihL, ← mrk_set, at0_set, mrk_len]
        by_cases e : L = f n
        · subst e
          rw [if_neg (Nat.lt_irrefl _), if_pos (show f n = f n ∧ f n < K from ⟨rfl, hk⟩), if_pos (Nat.lt_succ_self _)]; omega
        · rw [if_neg (show ¬ (L = f n ∧ f n < K) from fun x => e x.1)]
          by_cases e2 : f n < L
          · rw [if_pos e2, if_pos (show f n < L + 1 by omega)]; omega
          · rw [if_neg e2, if_neg (show ¬ f n < L + 1 by omega)]; omega
    rw [key K, if_pos hk, ih]
    show _ = ((disN f n + if f n ∈ (List.range n).map f then 0 else 1 : Nat) : Int)
    unfold mrk
    rw [mk_at hk]
    by_cases hh : f n ∈ (List.range n).map f
    · rw [if_pos hh, if_pos hh]; simp
    · rw [if_neg hh, if_neg hh]; simp
def fnd (A : List (List (List Int))) (t : List (List Int)) : Nat := if t ∈ A then A.idxOf t else 0
theorem fnd_lt {A : List (List (List Int))} {t : List (List Int)} (h : 0 < A.length) : fnd A t < A.length := by
  unfold fnd
  by_cases ht : t ∈ A
  · rw [if_pos ht]; exact List.idxOf_lt_length_of_mem ht
  · rw [if_neg ht]; exact h
theorem fnd_at {A : List (List (List Int))} {t : List (List Int)} {k : Nat} (hk : A[k]? = some t) (h : ∀ j s, j < k → A[j]? = some s → s ≠ t) : fnd A t = k := by
  obtain ⟨hl, he⟩ := List.getElem?_eq_some_iff.1 hk
  have hm : t ∈ A := he ▸ List.getElem_mem hl
  unfold fnd
  rw [if_pos hm]
  have h1 := List.idxOf_lt_length_of_mem hm
  have h2 : A[A.idxOf t] = t := List.getElem_idxOf h1
  rcases Nat.lt_trichotomy (A.idxOf t) k with h' | h' | h'
  · exact absurd h2 (h _ _ h' (List.getElem?_eq_getElem h1))
  · exact h'
  · have := List.not_of_lt_findIdx (p := (· == t)) (xs := A) (i := k) h'
    simp [he] at this
theorem fnd_none {A : List (List (List Int))} {t : List (List Int)} (h : ∀ j s, j < A.length → A[j]? = some s → s ≠ t) : fnd A t = 0 := by
  unfold fnd
  rw [if_neg fun hm => ?_]
  obtain ⟨k, hk, he⟩ := List.mem_iff_getElem.1 hm
  exact h k _ hk (List.getElem?_eq_getElem hk) he
theorem fnd_inj {A : List (List (List Int))} {t s : List (List Int)} (ht : t ∈ A) (hs : s ∈ A) : fnd A t = fnd A s ↔ t = s := by
  constructor
  · intro h
    unfold fnd at h
    rw [if_pos ht, if_pos hs] at h
    have h1 := List.getElem_idxOf (List.idxOf_lt_length_of_mem ht)
    have h2 := List.getElem_idxOf (List.idxOf_lt_length_of_mem hs)
    rw [← h1, ← h2]
    congr 1
  · rintro rfl; rfl
def conT (m : Int) (n : Nat) (t : List (List Int)) (j : Nat) : List (List Int) := cooT m n t ([0, 1] ++ digs m.toNat (n - 2) j)
theorem conT_ok {m : Int} {n : Nat} {t : List (List Int)} (hm : 0 < m) (j : Nat) : PlaT m n (conT m n t j) := hornT_ok hm _ _ _
theorem conT_lw {m : Int} {n : Nat} {t : List (List Int)} (hm : 2 ≤ m) (hn : 2 ≤ n) (ht : PlaT m n t) (L : Lw m n (atT t)) (j : Nat) : Lw m n (atT (conT m n t j)) :=
  coo_lw hm hn ht L (by rw [List.length_append, digs_len]; simp; omega) rfl rfl
def szR (m : Int) (t : List (List Int)) : IR := if l11R m t = 0 then ⟨(disN (conT m t.length t) (m.toNat ^ (t.length - 2)) : Nat), 0⟩ else ⟨0, l11R m t⟩
theorem sz_marks {m : Int} {n : Nat} {t : List (List Int)} {A : List (List (List Int))} (hm : 2 ≤ m) (hn : 2 ≤ n) (ht : PlaT m n t) (L : Lw m n (atT t)) (hA : AllOK m n A) (k : Nat) : sumN (m.toNat ^ (n - 2)) (at0 (mrk (m.toNat ^ (n - 2)) (fun j => fnd A (conT m n t j)) k)) = (disN (conT m n t) k : Int) := by
  have hp : 0 < m.toNat ^ (n - 2) := Nat.pow_pos (by omega)
  rw [mrk_sum fun i _ => by rw [← hA.len]; exact fnd_lt (by rw [hA.len]; exact hp)]
  congr 1
  refine disN_congr fun i j _ _ => fnd_inj ?_ ?_
  · exact hA.has _ (conT_ok (by omega) i) (conT_lw hm hn ht L i)
  · exact hA.has _ (conT_ok (by omega) j) (conT_lw hm hn ht L j)
end Go.Proofs.YteijannfbafdpaaGreatDoor
set_option linter.unusedSimpArgs false
set_option linter.unusedVariables false
namespace Go.Proofs.YteijannfbafdpaaGreatDoor
open Go.RowKit

theorem minL_snoc {m : Int} {xs ys : List Int} {k : Int} (j : Nat) : mk (j + 1) (fun i => (at0 xs i - k * at0 ys i % m) % m) = mk j (fun i => (at0 xs i - k * at0 ys i % m) % m) ++ [(at0 xs j - k * at0 ys j % m) % m] := mk_snoc _ _

set_option maxHeartbeats 1000000 in
set_option maxRecDepth 100000 in
theorem l07Minus_c (m k : Int) (v u : Value) (xs ys : List Int) (w : World) (hv : RdI w v xs) (hu : RdI w u ys) (hl : ys.length = xs.length) (hn : xs.length ≤ 1000) (hm : 2 ≤ m) (hm' : m ≤ 10000) (hk0 : 0 ≤ k) (hk1 : k ≤ 10000)
    (hx : ∀ x ∈ xs, 0 ≤ x ∧ x < m) (hy : ∀ x ∈ ys, 0 ≤ x ∧ x < m) :
    Calls Tryz.prog 74 #[.int .i64 m, v, u, .int .i64 k] w fun e w' => ∃ v', e = .returned v' ∧ OwI w' w.heap.size v' (minL m xs ys k) ∧ Below w.heap.size w w' := by
  obtain ⟨o, c, rfl, hmx, -⟩ := id hv
  obtain ⟨o', c', rfl, hmy, -⟩ := id hu
  have hml := hmx.1
  unfold maxLen at hmx hmy
  rw [hl] at hu hmy ⊢
  have HYl := Lib.hid hl
  clear hl
  have m0 : (m == 0) = false := by simp; omega
  have m1 : ¬ m = 0 := by omega
  go_enter Tryz.func74, Tryz.ntmps74
  go_wp2_with fail
  have O1 := OwI.lit w [] (by decide)
  have B1 : Below w.heap.size w (w.alloc (.cells #[] 2)) := (by (repeat (first | exact bR _ _ | (refine bS ?_ _) | (refine bA ?_ _) | (refine bN ?_ _) | (refine bD ?_))))
  simp at O1
  generalize w.alloc (.cells #[] 2) = w1 at O1 B1 ⊢
  go_loopw [9, 10] (fun s i wr => ∃ j : Nat, j ≤ xs.length ∧ i = .int .i64 j ∧ OwI wr w.heap.size s (mk j (fun i => (at0 xs i - k * at0 ys i % m) % m)) ∧ Below w.heap.size w wr) (fun _ i _ => xs.length - (intOf i).toNat)
  case atStart => exact ⟨0, Nat.zero_le _, rfl, O1, B1⟩
  case round =>
    obtain ⟨j, hj, rfl, hO, hB⟩ := hrel
    obtain ⟨ov, cv, rfl⟩ := hO.shapeN (n := j) (mk_len _ _)
    by_cases hlt : j < xs.length
    · obtain ⟨bx, fx, rfl, -⟩ := hv.cells (by omega)
      obtain ⟨by', fy, rfl, -⟩ := hu.cells (by rw [HYl.out]; omega)
      have cx := (hv.below hB (Nat.le_refl _)).cell0 (some_at0 hlt)
      have cy := (hu.below hB (Nat.le_refl _)).cell0 (some_at0 (show j < ys.length by rw [HYl.out]; exact hlt))
      have hxk := at0_range (by omega) hx j
      have hyk := at0_range (by omega) hy j
      have HS := Lib.hid (minL_snoc (m := m) (xs := xs) (ys := ys) (k := k) j)
      have HLn := Lib.hid (mk_len j (fun i => (at0 xs i - k * at0 ys i % m) % m))
      have hBs := hB.size
      generalize mk j (fun i => (at0 xs i - k * at0 ys i % m) % m) = l at hO HS HLn
      generalize at0 xs j = x at cx hxk HS
      generalize at0 ys j = y at cy hyk HS
      have hp0 : 0 ≤ k * y := Int.mul_nonneg hk0 hyk.1
      have hp1 : k * y ≤ 10000 * 10000 := Int.mul_le_mul hk1 (by omega) hyk.1 (by omega)
      have hr := mod_lt' (a := k * y) (show 0 < m by omega)
      have e1 : IntKind.i64.wrap (k * y) = k * y := IntWalk.i64_in _ (by omega)
      have e2 : (k * y).tmod m = k * y % m := Int.tmod_eq_emod_of_nonneg hp0
      have e3 : IntKind.i64.wrap (k * y % m) = k * y % m := IntWalk.i64_in _ (by omega)
      generalize k * y % m = R at hr e2 e3 HS
      have e4 : IntKind.i64.wrap (x - R) = x - R := IntWalk.i64_in _ (by omega)
      have i0 : (0 : Int) ≤ (j : Int) := by omega
      have i1 : (j : Int) < (xs.length : Int) := by omega
      have l1 := cell_lt cx
      have l2 := cell_lt cy
      go_wp2_with fail
      have hd0 : Below wr.heap.size wr wr.drew := (Below.refl _ _).drew
      have hsd0 := hd0.size
      refine wp_region_K (S := fun w' => w'.cell? ⟨bx, fx + j, none⟩ = some (.int .i64 x) ∧ w'.cell? ⟨by', fy + j, none⟩ = some (.int .i64 y)) [0, 16, 17, 18] (by kernel_rfl) ?_
      have hHeld : (fun w' : World => w'.cell? ⟨bx, fx + j, none⟩ = some (.int .i64 x) ∧ w'.cell? ⟨by', fy + j, none⟩ = some (.int .i64 y)) wr.drew := by go_keep
      refine' wpAnyK_pureL (i := 0) (v := _) rfl (by kernel_rfl) (by kernel_rfl) (by kernel_rfl) (by kernel_rfl) (fun _ _ _ h => h) (Or.inl ⟨by rfl, ?yT1⟩) ?rT1
      case yT1 => (intro w' _; go_simp; try with_reducible rfl)
      try simp only [List.getElem_toArray, List.getElem_cons_zero, List.getElem_cons_succ, Act.put, List.setIfInBounds_toArray, List.set_cons_zero, List.set_cons_succ]
      refine' wpAnyK_takeL (i := 1) (v := _) rfl (by kernel_rfl) (by kernel_rfl) (by kernel_rfl) (by kernel_rfl) (fun _ _ _ h => h) (Or.inl ⟨by rfl, ?yT2⟩) hHeld ?rT2
      case yT2 => (intro w' hSw; (try dsimp only at hSw); go_simp; try with_reducible rfl)
      try simp only [List.getElem_toArray, List.getElem_cons_zero, List.getElem_cons_succ, Act.put, List.setIfInBounds_toArray, List.set_cons_zero, List.set_cons_succ]
      refine' wpAnyK_takeL (i := 2) (v := _) rfl (by kernel_rfl) (by kernel_rfl) (by kernel_rfl) (by kernel_rfl) (fun _ _ _ h => h) (Or.inl ⟨by rfl, ?yT3⟩) hHeld ?rT3
      case yT3 => (intro w' hSw; (try dsimp only at hSw); go_simp; try with_reducible rfl)
      try simp only [List.getElem_toArray, List.getElem_cons_zero, List.getElem_cons_succ, Act.put, List.setIfInBounds_toArray, List.set_cons_zero, List.set_cons_succ]
      refine' wpAnyK_takeL (i := 3) (v := _) rfl (by kernel_rfl) (by kernel_rfl) (by kernel_rfl) (by kernel_rfl) (fun _ _ _ h => h) (Or.inl ⟨by rfl, ?yT4⟩) hHeld ?rT4
      case yT4 => (intro w' hSw; (try dsimp only at hSw); go_simp; try with_reducible rfl)
      try simp only [List.getElem_toArray, List.getElem_cons_zero, List.getElem_cons_succ, Act.put, List.setIfInBounds_toArray, List.set_cons_zero, List.set_cons_succ]
      refine' wpAnyK_takeL (i := 4) (v := _) rfl (by kernel_rfl) (by kernel_rfl) (by kernel_rfl) (by kernel_rfl) (fun _ _ _ h => h) (Or.inl ⟨by rfl, ?yT5⟩) hHeld ?rT5
      case yT5 => (intro w' hSw; (try dsimp only at hSw); go_simp; try with_reducible rfl)
      try simp only [List.getElem_toArray, List.getElem_cons_zero, List.getElem_cons_succ, Act.put, List.setIfInBounds_toArray, List.set_cons_zero, List.set_cons_succ]
      refine' wpAnyK_takeL (i := 5) (v := _) rfl (by kernel_rfl) (by kernel_rfl) (by kernel_rfl) (by kernel_rfl) (fun _ _ _ h => h) (Or.inl ⟨by rfl, ?yT6⟩) hHeld ?rT6
      case yT6 => (intro w' hSw; (try dsimp only at hSw); go_simp; try with_reducible rfl)
      try simp only [List.getElem_toArray, List.getElem_cons_zero, List.getElem_cons_succ, Act.put, List.setIfInBounds_toArray, List.set_cons_zero, List.set_cons_succ]
      refine' wpAnyK_takeL (i := 6) (v := _) rfl (by kernel_rfl) (by kernel_rfl) (by kernel_rfl) (by kernel_rfl) (fun _ _ _ h => h) (Or.inl ⟨by rfl, ?yT7⟩) hHeld ?rT7
      case yT7 => (intro w' hSw; (try dsimp only at hSw); go_simp; try with_reducible rfl)
      try simp only [List.getElem_toArray, List.getElem_cons_zero, List.getElem_cons_succ, Act.put, List.setIfInBounds_toArray, List.set_cons_zero, List.set_cons_succ]
      refine' wpAnyK_takeL (i := 7) (v := _) rfl (by kernel_rfl) (by kernel_rfl) (by kernel_rfl) (by kernel_rfl) (fun _ _ _ h => h) (Or.inl ⟨by rfl, ?yT8⟩) hHeld ?rT8
      case yT8 => (intro w' hSw; (try dsimp only at hSw); go_simp; try with_reducible rfl)
      try simp only [List.getElem_toArray, List.getElem_cons_zero, List.getElem_cons_succ, Act.put, List.setIfInBounds_toArray, List.set_cons_zero, List.set_cons_succ]
      refine' wpAnyK_takeL (i := 8) (v := _) rfl (by kernel_rfl) (by kernel_rfl) (by kernel_rfl) (by kernel_rfl) (fun _ _ _ h => h) (Or.inl ⟨by rfl, ?yT9⟩) hHeld ?rT9
      case yT9 => (intro w' hSw; (try dsimp only at hSw); go_simp; try with_reducible rfl)
      try simp only [List.getElem_toArray, List.getElem_cons_zero, List.getElem_cons_succ, Act.put, List.setIfInBounds_toArray, List.set_cons_zero, List.set_cons_succ]
      refine' wpAnyK_takeL (i := 9) (v := _) rfl (by kernel_rfl) (by kernel_rfl) (by kernel_rfl) (by kernel_rfl) (fun _ _ _ h => h) (Or.inl ⟨by rfl, ?yT10⟩) hHeld ?rT10
      case yT10 => (intro w' hSw; (try dsimp only at hSw); go_simp; try with_reducible rfl)
      try simp only [List.getElem_toArray, List.getElem_cons_zero, List.getElem_cons_succ, Act.put, List.setIfInBounds_toArray, List.set_cons_zero, List.set_cons_succ]
      refine' wpAnyK_takeL (i := 10) (v := _) rfl (by kernel_rfl) (by kernel_rfl) (by kernel_rfl) (by kernel_rfl) (fun _ _ _ h => h) (Or.inl ⟨by rfl, ?yT11⟩) hHeld ?rT11
      case yT11 => (intro w' hSw; (try dsimp only at hSw); go_simp; try with_reducible rfl)
      try simp only [List.getElem_toArray, List.getElem_cons_zero, List.getElem_cons_succ, Act.put, List.setIfInBounds_toArray, List.set_cons_zero, List.set_cons_succ]
      refine' wpAnyK_takeL (i := 11) (v := _) rfl (by kernel_rfl) (by kernel_rfl) (by kernel_rfl) (by kernel_rfl) (fun _ _ _ h => h) (Or.inl ⟨by rfl, ?yT12⟩) hHeld ?rT12
      case yT12 => (intro w' hSw; (try dsimp only at hSw); go_simp; try with_reducible rfl)
      try simp only [List.getElem_toArray, List.getElem_cons_zero, List.getElem_cons_succ, Act.put, List.setIfInBounds_toArray, List.set_cons_zero, List.set_cons_succ]
      refine' wpAnyK_takeL (i := 12) (v := _) rfl (by kernel_rfl) (by kernel_rfl) (by kernel_rfl) (by kernel_rfl) (fun _ _ _ h => h) (Or.inl ⟨by rfl, ?yT13⟩) hHeld ?rT13
      case yT13 => (intro w' hSw; (try dsimp only at hSw); go_simp; try with_reducible rfl)
      try simp only [List.getElem_toArray, List.getElem_cons_zero, List.getElem_cons_succ, Act.put, List.setIfInBounds_toArray, List.set_cons_zero, List.set_cons_succ]
      refine' wpAnyK_takeL (i := 13) (v := _) rfl (by kernel_rfl) (by kernel_rfl) (by kernel_rfl) (by kernel_rfl) (fun _ _ _ h => h) (Or.inl ⟨by rfl, ?yT14⟩) hHeld ?rT14
      case yT14 => (intro w' hSw; (try dsimp only at hSw); go_simp; try with_reducible rfl)
      try simp only [List.getElem_toArray, List.getElem_cons_zero, List.getElem_cons_succ, Act.put, List.setIfInBounds_toArray, List.set_cons_zero, List.set_cons_succ]
      refine' wpAnyK_takeL (i := 14) (v := _) rfl (by kernel_rfl) (by kernel_rfl) (by kernel_rfl) (by kernel_rfl) (fun _ _ _ h => h) (Or.inl ⟨by rfl, ?yT15⟩) hHeld ?rT15
      case yT15 => (intro w' hSw; (try dsimp only at hSw); go_simp; try with_reducible rfl)
      try simp only [List.getElem_toArray, List.getElem_cons_zero, List.getElem_cons_succ, Act.put, List.setIfInBounds_toArray, List.set_cons_zero, List.set_cons_succ]
      refine wpAnyK_oneL (i := 15) rfl (by kernel_rfl) (fun K hK => ?_)
      go_simp
      go_at_call 50
      refine (l01Mod_c (x - R) m _ (by omega) (by omega) (by omega) (by omega)).mono ?_
      rintro e w' ⟨rfl, rfl⟩
      go_wp2_with fail
      refine hK.out _ _ (fun _ => hHeld) ?_
      clear hK K
      try simp only [List.getElem_toArray, List.getElem_cons_zero, List.getElem_cons_succ, Act.put, List.setIfInBounds_toArray, List.set_cons_zero, List.set_cons_succ]
      refine wpAnyK_oneL (i := 16) rfl (by kernel_rfl) (fun K hK => ?_)
      go_simp
      (try go_wp2_with fail)
      refine hK.out _ _ (fun h => absurd h (by decide)) ?_
      clear hK K
      try simp only [List.getElem_toArray, List.getElem_cons_zero, List.getElem_cons_succ, Act.put, List.setIfInBounds_toArray, List.set_cons_zero, List.set_cons_succ]
      refine wpAnyK_oneL (i := 17) rfl (by kernel_rfl) (fun K hK => ?_)
      refine stI wr rfl _ _ rfl w.heap.size (.slice ov j cv) l rfl hO ((x - R) % m) rfl (by rw [HLn.out]; omega) (by omega) ?_
      intro v' w5 hO5 hb5
      refine hK.out _ _ (fun h => absurd h (by decide)) ?_
      clear hK K
      try simp only [List.getElem_toArray, List.getElem_cons_zero, List.getElem_cons_succ, Act.put, List.setIfInBounds_toArray, List.set_cons_zero, List.set_cons_succ]
      refine wpAnyK_oneL (i := 18) rfl (by kernel_rfl) (fun K hK => ?_)
      go_simp
      (try go_wp2_with fail)
      refine hK.out _ _ (fun h => absurd h (by decide)) ?_
      clear hK K
      try simp only [List.getElem_toArray, List.getElem_cons_zero, List.getElem_cons_succ, Act.put, List.setIfInBounds_toArray, List.set_cons_zero, List.set_cons_succ]
      refine wpAnyK_done (by kernel_rfl) ?_ _
      go_wp2_with fail
      rw [← HS.out] at hO5
      have hb6 := hB.trans hb5
      go_wp2
      exact ⟨⟨j + 1, by omega, by go_num, hO5, hb6⟩, by simp [intOf]; omega⟩
    · obtain rfl : j = xs.length := by omega
      go_wp2
      go_ret
      exact ⟨_, rfl, hO, hB⟩

theorem lonT_row {m : Int} {n k : Nat} {t : List (List Int)} (ht : PlaT m n t) (hk : k < n) : mk (n - k) (atT t k) ++ [0] = mk (n + 1 - k) (fun j => if k + j < n then atT t k j else 0) := by
  rw [show n + 1 - k = n - k + 1 by omega, mk_snoc, if_neg (by omega)]
  congr 1
  exact mk_ext fun j hj => by rw [if_pos (by omega)]
theorem lonT_last {n : Nat} {t : List (List Int)} : (List.range n).map (fun i => mk (n + 1 - i) (fun j => if i + j < n then atT t i j else 0)) ++ [[0]] = lonT n t := by
  unfold lonT tri
  rw [List.range_succ, List.map_append]
  congr 1
  show [[0]] = [mk (n + 1 - n) _]
  rw [show n + 1 - n = 0 + 1 by omega, mk_snoc]
  show [[0]] = [[if n + 0 < n then atT t n 0 else 0]]
  rw [if_neg (by omega)]

set_option maxHeartbeats 1000000 in
set_option maxRecDepth 100000 in
theorem l07Longer_c (m : Int) (n : Nat) (v : Value) (t : List (List Int)) (w : World) (hv : RdT w v t) (hn : n ≤ 100) (ht : PlaT m n t) :
    Calls Tryz.prog 47 #[v] w fun e w' => ∃ v', e = .returned v' ∧ OwS w' w.heap.size v' (lonT n t) ∧ Below w.heap.size w w' := by
  obtain ⟨o, c, rfl, hmx, -⟩ := id hv
  have hu : RdT w (.slice o n c) t := by rw [ht.1] at hv; exact hv
  rw [ht.1] at hmx ⊢
  clear hv
  unfold maxLen at hmx
  have HT := Lib.hid ht
  clear ht
  go_enter Tryz.func47, Tryz.ntmps47
  go_wp2_with fail
  have O1 := OwS.lit0 w
  have B1 : Below w.heap.size w (w.alloc (.cells #[] 34)) := (by (repeat (first | exact bR _ _ | (refine bS ?_ _) | (refine bA ?_ _) | (refine bN ?_ _) | (refine bD ?_))))
  generalize w.alloc (.cells #[] 34) = w1 at O1 B1 ⊢
  go_loopw [3, 4] (fun s i wr => ∃ (k : Nat) (ov : Option Addr) (cv : Nat), k ≤ n ∧ i = .int .i64 k ∧ s = .slice ov k cv ∧ OwS wr w.heap.size (.slice ov k cv) ((List.range k).map (fun i => mk (n + 1 - i) (fun j => if i + j < n then atT t i j else 0))) ∧ Below w.heap.size w wr) (fun _ i _ => n - (intOf i).toNat)
  case atStart => exact ⟨0, _, _, Nat.zero_le _, rfl, rfl, O1, B1⟩
  case round =>
    clear O1 B1
    obtain ⟨k, ov, cv, hk, rfl, rfl, hO, hB⟩ := hrel
    have HLn := Lib.hid (show ((List.range k).map (fun i => mk (n + 1 - i) (fun j => if i + j < n then atT t i j else 0))).length = k by simp)
    have hBs := hB.size
    by_cases hlt : k < n
    · obtain ⟨row, hr1, hl1, -⟩ := HT.out.row hlt
      have HE := Lib.hid (show row ++ [0] = mk (n + 1 - k) (fun j => if k + j < n then atT t k j else 0) by
        rw [← lonT_row HT.out hlt]
        congr 1
        rw [eq_mk row, hl1]
        exact mk_ext fun j _ => by simp [atT, List.getD, hr1])
      obtain ⟨bx, fx, rfl, -⟩ := hu.rows (by rw [HT.out.1]; omega)
      obtain ⟨o1, c1, cx0, rx0⟩ := hu.row hr1
      rw [hl1] at cx0 rx0
      have cx := keep_cell hB (Nat.le_refl _) cx0
      have rx := rx0.below hB (Nat.le_refl _)
      obtain ⟨b1, f1, rfl, -⟩ := rx.cells (by omega)
      have HL1 := Lib.hid hl1
      clear hr1 hl1
      have HS := Lib.hid (tri_snoc_rows (n + 1) k (fun i j => if i + j < n then atT t i j else 0))
      generalize (List.range k).map (fun i => mk (n + 1 - i) (fun j => if i + j < n then atT t i j else 0)) = l at hO HS HLn
      have i0 : (0 : Int) ≤ (k : Int) := by omega
      have i1 : (k : Int) < (n : Int) := by omega
      go_wp2_with (first
        | (go_at_call 73; go_loud (refine (l01Own_c ⟨b1, f1, none⟩ (n - k) c1 row _ rx (by rw [HL1.out]; omega)).mono ?_; rintro e w2 ⟨vo, rfl, how, hb2⟩; obtain ⟨oo', co', rfl⟩ := how.shapeN (n := n - k) HL1.out; have hz2 := hb2.size))
        | (at_builtin; go_loud (refine apI w2 rfl _ _ rfl wr.heap.size (.slice oo' (n - k) co') row rfl how 0 (by go_simp) (by rw [HL1.out]; omega) (by omega) ?_; intro v' w4 hO4 hgr4 hb4 hlt4; clear hgr4; have HL2 := Lib.hid (show (row ++ [0]).length = n - k + 1 by rw [List.length_append, HL1.out]; rfl); obtain ⟨oe, ce, rfl⟩ := hO4.shapeN (n := n - k + 1) HL2.out))
        | (at_builtin; obtain ⟨W, hW⟩ : ∃ W : World, W = w4.alloc (.cells #[.slice oe (n - k + 1) ce] 34) := ⟨_, rfl⟩; have hb24 := hb2.trans hb4; have hz4 := hb24.size; have hWs : W.heap.size = w4.heap.size + 1 := (by rw [hW]; simp); have hT : OwSR w.heap.size wr.heap.size W (.slice ov k cv) l := (by rw [hW]; exact hO.toR.stay (fun j _ hj => (Below.heap_alloc _ _ j (by omega)).trans (hb24.block j hj))); have hU : OwI W wr.heap.size (.slice oe (n - k + 1) ce) (row ++ [0]) := (by rw [hW]; exact hO4.alloc _); have hC : W.cell? ⟨w4.heap.size, 0, none⟩ = some (.slice oe (n - k + 1) ce) := (by rw [hW]; simp); have B3 : Below w.heap.size w W := (by rw [hW]; exact hB.trans (((hb24).alloc hz4 _).mono hBs)); rw [← hW]; have HW := Lib.hid hW; clear hW; go_loud (refine apT W rfl _ _ rfl w.heap.size wr.heap.size (.slice ov k cv) l rfl hT (by omega) hBs _ _ w4.heap.size rfl hC hU (by rw [HLn.out]; omega) ?_; intro g cap w3 hO3 hgr hb3; clear hgr; have B4 := B3.trans hb3)))
      rw [HE.out, HLn.out, ← HS.out] at hO3
      exact ⟨⟨k + 1, _, _, by omega, by go_num, by rw [HLn.out], hO3, B4⟩, by simp [intOf]; omega⟩
    · obtain rfl : k = n := by omega
      have i1 : ¬ (k : Int) < (k : Int) := by omega
      have HLa := Lib.hid (lonT_last (n := k) (t := t))
      generalize (List.range k).map (fun i => mk (k + 1 - i) (fun j => if i + j < k then atT t i j else 0)) = l at hO HLa HLn
      have OZ := OwI.lit wr [0] (by decide)
      have hbz : Below wr.heap.size wr (wr.alloc (.cells #[.int .i64 0] 2)) := (by (repeat (first | exact bR _ _ | (refine bS ?_ _) | (refine bA ?_ _) | (refine bN ?_ _) | (refine bD ?_))))
      go_wp2_with (at_builtin; obtain ⟨W, hW⟩ : ∃ W : World, W = (wr.alloc (.cells #[.int .i64 0] 2)).alloc (.cells #[.slice (some ⟨wr.heap.size, 0, none⟩) 1 1] 34) := ⟨_, rfl⟩; have hWs : W.heap.size = wr.heap.size + 2 := (by rw [hW]; simp); have hT : OwSR w.heap.size wr.heap.size W (.slice ov k cv) l := (by rw [hW]; exact hO.toR.stay (fun j _ hj => (Below.heap_alloc _ _ j (by simp; omega)).trans (hbz.block j hj))); have hU : OwI W wr.heap.size (.slice (some ⟨wr.heap.size, 0, none⟩) 1 1) [0] := (by rw [hW]; exact OZ.alloc _); have hC : W.cell? ⟨wr.heap.size + 1, 0, none⟩ = some (.slice (some ⟨wr.heap.size, 0, none⟩) 1 1) := (by rw [hW]; have e : (wr.alloc (.cells #[.int .i64 0] 2)).heap.size = wr.heap.size + 1 := (by simp); rw [← e]; simp); have B3 : Below w.heap.size w W := (by rw [hW]; exact hB.trans (((by (repeat (first | exact bR _ _ | (refine bS ?_ _) | (refine bA ?_ _) | (refine bN ?_ _) | (refine bD ?_)))) : Below wr.heap.size wr _).mono hBs)); rw [← hW]; have HW := Lib.hid hW; clear hW; go_loud (refine apT W rfl _ _ rfl w.heap.size wr.heap.size (.slice ov k cv) l rfl hT (by omega) hBs _ _ (wr.heap.size + 1) rfl hC hU (by rw [HLn.out]; omega) ?_; intro g cap w3 hO3 hgr hb3; clear hgr; have B4 := B3.trans hb3))
      go_ret
      rw [HLa.out] at hO3
      exact ⟨_, rfl, hO3, B4⟩
end Go.Proofs.YteijannfbafdpaaGreatDoor
