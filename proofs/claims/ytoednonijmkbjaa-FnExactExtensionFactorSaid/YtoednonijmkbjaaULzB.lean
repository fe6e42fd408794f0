/- Lemmas of LzB. -/
import Derived.Test.YtoednonijmkbjaaULzA
set_option linter.unusedSimpArgs false
set_option linter.unusedVariables false
namespace Go.Proofs.Ytoednonijmkbjaa
open Go.RowKit

def lamTo (n : Nat) : Nat → Int
  | 0 => 0
  | k + 1 => ((Nat.gcd (lamTo n k).toNat (bin n (k + 1)).toNat : Nat) : Int)
theorem lamTo_range : ∀ n, n ≤ 10 → ∀ k, k ≤ 10 → 0 ≤ lamTo n k ∧ lamTo n k ≤ 1024 := by
  intro n hn k hk
  have h : ∀ n : Fin 11, ∀ k : Fin 11, 0 ≤ lamTo n.1 k.1 ∧ lamTo n.1 k.1 ≤ 1024 := by decide
  exact h ⟨n, by omega⟩ ⟨k, by omega⟩
theorem lamTo_lam : ∀ n, n ≤ 10 → lamTo n (n - 1) = lam n := by
  intro n hn
  have h : ∀ n : Fin 11, lamTo n.1 (n.1 - 1) = lam n.1 := by decide
  exact h ⟨n, by omega⟩
theorem lam_range : ∀ n, 2 ≤ n → n ≤ 10 → 1 ≤ lam n ∧ lam n ≤ 7 := by
  intro n h2 hn
  have h : ∀ n : Fin 11, 2 ≤ n.1 → 1 ≤ lam n.1 ∧ lam n.1 ≤ 7 := by decide
  exact h ⟨n, by omega⟩ h2

theorem binomial_i (a b : Int) (n k : Nat) (w : World) (ha : a = n) (hb : b = k) (hk : k ≤ n) (hn : n ≤ 10) :
    Calls Try.prog 100 #[.int .i64 a, .int .i64 b] w fun e w' => e = .returned (.int .i64 (bin n k)) ∧ Below w.heap.size w w' := by
  subst ha hb
  exact binomial_c n k w hk hn
theorem l01Binomial_i (a b : Int) (n k : Nat) (w : World) (ha : a = n) (hb : b = k) (hk : k ≤ n) (hn : n ≤ 10) :
    Calls Try.prog 94 #[.int .i64 a, .int .i64 b] w fun e w' => e = .returned (.int .i64 (bin n k)) ∧ Below w.heap.size w w' := by
  subst ha hb
  exact l01Binomial_c n k w hk hn

set_option maxHeartbeats 1000000 in
set_option maxRecDepth 100000 in
theorem binomialDivisor_c (n : Nat) (w : World) (h2 : 2 ≤ n) (hn : n ≤ 10) :
    Calls Try.prog 99 #[.int .i64 n] w fun e w' => e = .returned (.int .i64 (lam n)) ∧ Below w.heap.size w w' := by
  go_enter Try.func99, Try.ntmps99
  go_wp2_with fail
  go_loopw [3, 4] (fun d i wr => ∃ q : Nat, q ≤ n - 1 ∧ i = .int .i64 ((q : Int) + 1) ∧ d = .int .i64 (lamTo n q) ∧ Below w.heap.size w wr) (fun _ i _ => n - (intOf i).toNat)
  case atStart => exact ⟨0, Nat.zero_le _, rfl, rfl, Below.refl _ _⟩
  case round =>
    obtain ⟨q, hq, rfl, rfl, hB⟩ := hrel
    have hBs := hB.size
    by_cases hlt : q < n - 1
    · have i1 : (q : Int) + 1 < (n : Int) := by omega
      have r1 := lamTo_range n hn q (by omega)
      have r2 := bin_r10 hn (q + 1)
      have HL := Lib.hid (show ((Nat.gcd (lamTo n q).toNat (bin n (q + 1)).toNat : Nat) : Int) = lamTo n (q + 1) from rfl)
      go_wp2_with fail
      refine (binomial_i (n : Int) ((q : Int) + 1) n (q + 1) _ rfl (by omega) (by omega) hn).mono ?_
      rintro e w2 ⟨rfl, hb2⟩
      go_wp2_with fail
      refine (gcd_c (lamTo n q) (bin n (q + 1)) _ (by omega) (by omega) (by omega) (by omega)).mono ?_
      rintro e w3 ⟨rfl, dg, rfl⟩
      rw [HL.out]
      go_wp2
      exact ⟨⟨q + 1, by omega, by go_num, rfl, (by (repeat (first | exact Below.refl _ _ | (refine Below.setCell ?_ (by first | (simp; done) | (simp; omega) | omega) _) | (refine Below.alloc ?_ (by first | (simp; done) | (simp; omega) | omega) _) | (refine below_drewN ?_ _) | (refine Below.drew ?_) | (refine Below.trans ?_ (Below.mono hb2 (by first | (simp; done) | (simp; omega) | omega))) | (refine Below.trans ?_ (Below.mono hB (by first | (simp; done) | (simp; omega) | omega))))))⟩, by simp [intOf]; omega⟩
    · obtain rfl : q = n - 1 := by omega
      have i1 : ¬ ((n - 1 : Nat) : Int) + 1 < (n : Int) := by omega
      rw [lamTo_lam n hn]
      go_wp2
      go_ret
      exact ⟨rfl, hB⟩
set_option maxHeartbeats 1000000 in
set_option maxRecDepth 100000 in
theorem l01Lazard_c (n : Nat) (w : World) (h2 : 2 ≤ n) (hn : n ≤ 10) :
    Calls Try.prog 93 #[.int .i64 n] w fun e w' => e = .returned (.int .i64 (lam n)) ∧ Below w.heap.size w w' := by
  go_enter Try.func93, Try.ntmps93
  go_wp2_with fail
  go_loopw [3, 4] (fun d i wr => ∃ q : Nat, q ≤ n - 1 ∧ i = .int .i64 ((q : Int) + 1) ∧ d = .int .i64 (lamTo n q) ∧ Below w.heap.size w wr) (fun _ i _ => n - (intOf i).toNat)
  case atStart => exact ⟨0, Nat.zero_le _, rfl, rfl, Below.refl _ _⟩
  case round =>
    obtain ⟨q, hq, rfl, rfl, hB⟩ := hrel
    have hBs := hB.size
    by_cases hlt : q < n - 1
    · have i1 : (q : Int) + 1 < (n : Int) := by omega
      have r1 := lamTo_range n hn q (by omega)
      have r2 := bin_r10 hn (q + 1)
      have HL := Lib.hid (show ((Nat.gcd (lamTo n q).toNat (bin n (q + 1)).toNat : Nat) : Int) = lamTo n (q + 1) from rfl)
      go_wp2_with fail
      refine (l01Binomial_i (n : Int) ((q : Int) + 1) n (q + 1) _ rfl (by omega) (by omega) hn).mono ?_
      rintro e w2 ⟨rfl, hb2⟩
      go_wp2_with fail
      refine (l01Gcd_c (lamTo n q) (bin n (q + 1)) _ (by omega) (by omega) (by omega) (by omega)).mono ?_
      rintro e w3 ⟨rfl, rfl⟩
      rw [HL.out]
      go_wp2
      exact ⟨⟨q + 1, by omega, by go_num, rfl, (by (repeat (first | exact Below.refl _ _ | (refine Below.setCell ?_ (by first | (simp; done) | (simp; omega) | omega) _) | (refine Below.alloc ?_ (by first | (simp; done) | (simp; omega) | omega) _) | (refine below_drewN ?_ _) | (refine Below.drew ?_) | (refine Below.trans ?_ (Below.mono hb2 (by first | (simp; done) | (simp; omega) | omega))) | (refine Below.trans ?_ (Below.mono hB (by first | (simp; done) | (simp; omega) | omega))))))⟩, by simp [intOf]; omega⟩
    · obtain rfl : q = n - 1 := by omega
      have i1 : ¬ ((n - 1 : Nat) : Int) + 1 < (n : Int) := by omega
      rw [lamTo_lam n hn]
      go_wp2
      go_ret
      exact ⟨rfl, hB⟩
theorem laz_quo {n i : Nat} (h2 : 2 ≤ n) (hn : n ≤ 10) (h1 : 1 ≤ i) (hi : i < n) : (bin n i).tdiv (lam n) = laz n i := by
  unfold laz
  rw [if_pos ⟨h1, hi⟩, Int.tdiv_eq_ediv_of_nonneg (bin_r10 hn i).1]
def lazL (n k : Nat) : List Int := mk (n + 1) (fun i => if i < k then laz n i else 0)
theorem lazL_1 (n : Nat) : lazL n 1 = List.replicate (n + 1) 0 := by
  rw [mk_zero]
  refine mk_ext fun i _ => ?_
  by_cases h : i < 1
  · rw [if_pos h, show i = 0 by omega]; rfl
  · rw [if_neg h]
theorem lazL_set {n k : Nat} (hk : k < n) : (lazL n k).set k (laz n k) = lazL n (k + 1) := by
  unfold lazL
  rw [mk_set]
  refine mk_ext fun i _ => ?_
  by_cases h : i = k
  · subst h; rw [if_pos rfl, if_pos (by omega)]
  · rw [if_neg h]
    by_cases h' : i < k
    · rw [if_pos h', if_pos (by omega)]
    · rw [if_neg h', if_neg (by omega)]
theorem laz_out {n i : Nat} (h : n ≤ i) : laz n i = 0 := by unfold laz; rw [if_neg (by omega)]
theorem lazL_n (n : Nat) : lazL n n = mk (n + 1) (laz n) := mk_ext fun i hi => by
  by_cases h : i < n
  · rw [if_pos h]
  · rw [if_neg h, laz_out (by omega)]

set_option maxHeartbeats 1000000 in
set_option maxRecDepth 100000 in
theorem lazard_c (n : Nat) (w : World) (h2 : 2 ≤ n) (hn : n ≤ 10) :
    Calls Try.prog 74 #[.int .i64 n] w fun e w' => ∃ v', e = .returned v' ∧ OwI w' w.heap.size v' (mk (n + 1) (laz n)) ∧ Below w.heap.size w w' := by
  go_enter Try.func74, Try.ntmps74
  go_wp2_with fail
  refine (binomialDivisor_c n w h2 hn).mono ?_
  rintro e w1 ⟨rfl, hb1⟩
  have e0 : IntKind.i64.wrap ((n : Int) + 1) = ((n + 1 : Nat) : Int) := by rw [IntWalk.i64_in _ (by omega)]; omega
  have hb1s := hb1.size
  go_wp2_with (at_make; go_loud (refine mkI _ rfl _ _ rfl _ _ _ (n + 1) rfl rfl rfl (by omega) ?_; intro w2 hown hb hs1))
  rw [← lazL_1] at hown
  obtain ⟨g, hg⟩ : ∃ g, g = w1.heap.size := ⟨_, rfl⟩
  rw [← hg] at hown hb hs1 hb1s ⊢
  have HG := Lib.hid hg
  have hcm : n + 1 ≤ maxLen := by unfold maxLen; omega
  obtain ⟨la1, la2⟩ := lam_range n h2 hn
  obtain ⟨L, hL⟩ : ∃ L, L = lam n := ⟨_, rfl⟩
  rw [← hL] at la1 la2 ⊢
  have HL := Lib.hid hL
  clear hL hg
  have l1 : ¬ L = 0 := by omega
  have l2 : (L == 0) = false := by simp; omega
  have B2 : Below w.heap.size w w2 := hb1.trans (hb.mono hb1s)
  clear hb1 hb
  go_loopw [5] (fun i wr => ∃ k : Nat, 1 ≤ k ∧ k ≤ n ∧ i = .int .i64 k ∧ OwI wr g (.slice (some ⟨g, 0, none⟩) (n + 1) (n + 1)) (lazL n k) ∧ Below w.heap.size w wr) (fun i _ => n - (intOf i).toNat)
  case atStart => exact ⟨1, Nat.le_refl _, by omega, rfl, hown, B2⟩
  case round =>
    obtain ⟨k, hk1, hk, rfl, hO, hB⟩ := hrel
    have hBs := hB.size
    by_cases hlt : k < n
    · have i1 : (k : Int) < (n : Int) := by omega
      have i2 : (0 : Int) ≤ (k : Int) := by omega
      have i3 : (k : Int) < (n : Int) + 1 := by omega
      have i4 : (k : Int) < ((n + 1 : Nat) : Int) := by omega
      have r2 := bin_r10 hn k
      have hq := laz_quo h2 hn hk1 hlt
      rw [← HL.out] at hq
      have HQ := Lib.hid hq
      clear hq
      have hc0 := hO.cell (k := k) (mk_get (f := fun i => if i < k then laz n i else 0) (show k < n + 1 by omega))
      have hf0 := hO.fz k
      have q1 : (bin n k).tdiv L = laz n k := HQ.out
      have q2 := laz_quo h2 hn hk1 hlt
      have q0 : 0 ≤ (bin n k).tdiv L ∧ (bin n k).tdiv L ≤ 1024 := by
        rw [Int.tdiv_eq_ediv_of_nonneg r2.1]
        exact ⟨Int.ediv_nonneg r2.1 (by omega), Int.le_trans (Int.ediv_le_self _ r2.1) r2.2⟩
      have e3 : IntKind.i64.wrap ((bin n k).tdiv L) = (bin n k).tdiv L := IntWalk.i64_in _ (by omega)
      go_wp2_with fail
      refine (binomial_c n k _ (by omega) hn).mono ?_
      rintro e w4 ⟨rfl, hb4⟩
      have hO4 := hO.below hb4
      have hc1 := hO4.cell (k := k) (mk_get (f := fun i => if i < k then laz n i else 0) (show k < n + 1 by omega))
      have hf1 := hO4.fz k
      clear hc0 hf0
      have hHO := Lib.hid hO4
      clear hO hO4
      go_wp2
      have hO5 := hHO.out.put k (laz n k)
      rw [lazL_set hlt] at hO5
      exact ⟨⟨k + 1, by omega, by omega, by go_num, hO5, below_put (hB.trans (hb4.mono hBs)) (g := g) (k := k) (by omega) (.int .i64 (laz n k))⟩, by simp [intOf]; omega⟩
    · obtain rfl : k = n := by omega
      rw [lazL_n] at hO
      have i1 : ¬ (k : Int) < (k : Int) := by omega
      go_wp2
      go_ret
      exact ⟨_, rfl, hO.mono (by have := HG.out; omega), hB⟩
end Go.Proofs.Ytoednonijmkbjaa
