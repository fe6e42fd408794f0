/- Lemmas. -/
import Derived.Test.YteijannfbafdpaaGreatDoorSZG3
import Derived.Test.YteijannfbafdpaaGreatDoorSZM2
import Derived.Test.YteijannfbafdpaaGreatDoorSZG2
import Derived.Test.YteijannfbafdpaaGreatDoorSZG18
import Derived.Test.YteijannfbafdpaaGreatDoorSZG1
/- Inverses modulo a number, by Euclid's algorithm, and common divisors: the program and the reference. -/
set_option linter.unusedSimpArgs false
set_option linter.unusedVariables false
namespace Go.Proofs.YteijannfbafdpaaGreatDoor
open Go.RowKit

set_option maxHeartbeats 400000 in
theorem l01Mod_c (n m : Int) (w : World) (hm : 0 < m) (hm' : m ≤ 1000000000000000000) (h1 : -9000000000000000000 ≤ n) (h2 : n ≤ 9000000000000000000) :
    Calls Tryz.prog 50 #[.int .i64 m, .int .i64 n] w fun e w' => e = .returned (.int .i64 (n % m)) ∧ w = w' := by
  have h3 : -m < n.tmod m := Int.lt_tmod_of_pos _ hm
  have h4 : n.tmod m < m := Int.tmod_lt_of_pos _ hm
  have HE := Lib.hid (tmod_mod (n := n) (m := m))
  go_enter Tryz.func50, Tryz.ntmps50
  go_wp2
  go_ret
  exact ⟨by rw [← HE.out]; rfl, rfl⟩

set_option maxHeartbeats 1000000 in
theorem inverse_c (m a : Int) (w : World) (hm : 2 ≤ m) (hm' : m ≤ 1000000000000) (ha : -9000000000000000000 ≤ a) (ha' : a ≤ 9000000000000000000) :
    Calls Tryz.prog 85 #[.int .i64 m, .int .i64 a] w fun e w' => e = .returned (.int .i64 (invM m a)) ∧ w = w' := by
  have hA := mod_lt' (a := a) (show 0 < m by omega)
  have hst := EuI.start (m := m.toNat) (a := (a % m).toNat) (by omega)
  go_enter Tryz.func85, Tryz.ntmps85
  go_wp2_with (go_at_call 87; refine (mod_c _ _ _ (by omega) (by omega) (by omega) (by omega)).mono ?_; rintro e w' ⟨rfl, rfl⟩)
  go_loop [5, 6, 7, 8] (fun x y r s => ∃ (R S : Nat) (X Y : Int), r = .int .i64 R ∧ s = .int .i64 S ∧ x = .int .i64 X ∧ y = .int .i64 Y ∧ EuI m.toNat R S X Y ∧ Hid (eu R S X Y = eu m.toNat (a % m).toNat 0 1)) (fun x y r s => (intOf s).toNat)
  case atStart => exact ⟨m.toNat, (a % m).toNat, 0, 1, by rw [Int.toNat_of_nonneg (by omega)], by rw [Int.toNat_of_nonneg (by omega)], rfl, rfl, hst, Lib.hid rfl⟩
  case round =>
    obtain ⟨R, S, X, Y, rfl, rfl, rfl, rfl, hE, HE⟩ := hrel
    have hb := hE.bounds
    have hle := hE.le
    have hlt := hE.lt
    by_cases hs : S = 0
    · subst hs
      have HR := Lib.hid (show X % m = invM m a by unfold invM; rw [← HE.out, eu_0])
      have hX := hE.bx
      go_wp2_with (go_at_call 87; refine (mod_c _ _ _ (by omega) (by omega) (by omega) (by omega)).mono ?_; rintro e w' ⟨rfl, rfl⟩)
      go_ret
      exact ⟨by rw [← HR.out]; rfl, rfl⟩
    · have hp := hE.prod hs
      have hb2 := (hE.step hs).bounds
      have hx := hE.bx
      have hq0 : (0 : Int) ≤ ((R / S : Nat) : Int) := Int.natCast_nonneg _
      have hqn : R / S ≤ m.toNat := Nat.le_trans (Nat.div_le_self R S) hle
      have hqm : ((R / S : Nat) : Int) ≤ m := by
        generalize R / S = Q at hqn
        omega
      have e1 : (R : Int).tdiv (S : Int) = ((R / S : Nat) : Int) := by rw [Int.tdiv_eq_ediv_of_nonneg (by omega)]; rfl
      have e2 : (R : Int) - ((R / S : Nat) : Int) * (S : Int) = ((R % S : Nat) : Int) := by
        have e := Nat.div_add_mod R S
        have : ((S * (R / S) + R % S : Nat) : Int) = (R : Int) := by rw [e]
        push_cast at this ⊢; grind
      have e3 : ((R / S : Nat) : Int) * (S : Int) ≤ (R : Int) := by
        have : (0 : Int) ≤ ((R % S : Nat) : Int) := by omega
        omega
      have e4 : 0 ≤ ((R / S : Nat) : Int) * (S : Int) := Int.mul_nonneg hq0 (by omega)
      have s0 : ((S : Int) == 0) = false := by simp; omega
      have s1 : ¬ (S : Int) = 0 := by omega
      have s2 : (0 : Int) < (S : Int) := by omega
      have hst2 := hE.step hs
      have HE2 := Lib.hid (show eu S (R % S) Y (X - ((R / S : Nat) : Int) * Y) = eu m.toNat (a % m).toNat 0 1 by rw [← eu_s hs]; exact HE.out)
      have hml := Nat.mod_lt R (show 0 < S by omega)
      clear hs
      generalize ((R / S : Nat) : Int) = q at *
      go_wp2
      exact ⟨⟨S, R % S, Y, X - q * Y, rfl, by rw [← e2]; go_num, rfl, by go_num, hst2, HE2⟩, by simp [intOf]; omega⟩
set_option maxHeartbeats 1000000 in
theorem l01Inv_c (m a : Int) (w : World) (hm : 2 ≤ m) (hm' : m ≤ 1000000000000) (ha : -9000000000000000000 ≤ a) (ha' : a ≤ 9000000000000000000) :
    Calls Tryz.prog 68 #[.int .i64 m, .int .i64 a] w fun e w' => e = .returned (.int .i64 (invM m a)) ∧ w = w' := by
  have hA := mod_lt' (a := a) (show 0 < m by omega)
  have hst := EuI.start (m := m.toNat) (a := (a % m).toNat) (by omega)
  go_enter Tryz.func68, Tryz.ntmps68
  go_wp2_with (go_at_call 50; refine (l01Mod_c _ _ _ (by omega) (by omega) (by omega) (by omega)).mono ?_; rintro e w' ⟨rfl, rfl⟩)
  go_loop [5, 6, 7, 8] (fun r s x y => ∃ (R S : Nat) (X Y : Int), r = .int .i64 R ∧ s = .int .i64 S ∧ x = .int .i64 X ∧ y = .int .i64 Y ∧ EuI m.toNat R S X Y ∧ Hid (eu R S X Y = eu m.toNat (a % m).toNat 0 1)) (fun r s x y => (intOf s).toNat)
  case atStart => exact ⟨m.toNat, (a % m).toNat, 0, 1, by rw [Int.toNat_of_nonneg (by omega)], by rw [Int.toNat_of_nonneg (by omega)], rfl, rfl, hst, Lib.hid rfl⟩
  case round =>
    obtain ⟨R, S, X, Y, rfl, rfl, rfl, rfl, hE, HE⟩ := hrel
    have hb := hE.bounds
    have hle := hE.le
    have hlt := hE.lt
    by_cases hs : S = 0
    · subst hs
      have HR := Lib.hid (show X % m = invM m a by unfold invM; rw [← HE.out, eu_0])
      have hX := hE.bx
      go_wp2_with (go_at_call 50; refine (l01Mod_c _ _ _ (by omega) (by omega) (by omega) (by omega)).mono ?_; rintro e w' ⟨rfl, rfl⟩)
      go_ret
      exact ⟨by rw [← HR.out]; rfl, rfl⟩
    · have hp := hE.prod hs
      have hb2 := (hE.step hs).bounds
      have hx := hE.bx
      have hq0 : (0 : Int) ≤ ((R / S : Nat) : Int) := Int.natCast_nonneg _
      have hqn : R / S ≤ m.toNat := Nat.le_trans (Nat.div_le_self R S) hle
      have hqm : ((R / S : Nat) : Int) ≤ m := by
        generalize R / S = Q at hqn
        omega
      have e1 : (R : Int).tdiv (S : Int) = ((R / S : Nat) : Int) := by rw [Int.tdiv_eq_ediv_of_nonneg (by omega)]; rfl
      have e2 : (R : Int) - ((R / S : Nat) : Int) * (S : Int) = ((R % S : Nat) : Int) := by
        have e := Nat.div_add_mod R S
        have : ((S * (R / S) + R % S : Nat) : Int) = (R : Int) := by rw [e]
        push_cast at this ⊢; grind
      have e3 : ((R / S : Nat) : Int) * (S : Int) ≤ (R : Int) := by
        have : (0 : Int) ≤ ((R % S : Nat) : Int) := by omega
        omega
      have e4 : 0 ≤ ((R / S : Nat) : Int) * (S : Int) := Int.mul_nonneg hq0 (by omega)
      have s0 : ((S : Int) == 0) = false := by simp; omega
      have s1 : ¬ (S : Int) = 0 := by omega
      have s2 : (0 : Int) < (S : Int) := by omega
      have hst2 := hE.step hs
      have HE2 := Lib.hid (show eu S (R % S) Y (X - ((R / S : Nat) : Int) * Y) = eu m.toNat (a % m).toNat 0 1 by rw [← eu_s hs]; exact HE.out)
      have hml := Nat.mod_lt R (show 0 < S by omega)
      clear hs
      generalize ((R / S : Nat) : Int) = q at *
      go_wp2
      exact ⟨⟨S, R % S, Y, X - q * Y, rfl, by rw [← e2]; go_num, rfl, by go_num, hst2, HE2⟩, by simp [intOf]; omega⟩

end Go.Proofs.YteijannfbafdpaaGreatDoor

/- Units: common divisors, and what asks for them. -/
set_option linter.unusedSimpArgs false
set_option linter.unusedVariables false
namespace Go.Proofs.YteijannfbafdpaaGreatDoor
open Go.RowKit

set_option maxHeartbeats 1000000 in
theorem l01Gcd_c (a b : Int) (w : World) (ha : 0 ≤ a) (ha' : a ≤ 1000000000000000000) (hb : 0 ≤ b) (hb' : b ≤ 1000000000000000000) :
    Calls Tryz.prog 72 #[.int .i64 a, .int .i64 b] w fun e w' => e = .returned (.int .i64 (Nat.gcd a.toNat b.toNat : Nat)) ∧ w = w' := by
  have c0 : ¬ a < 0 := by omega
  have c1 : ¬ b < 0 := by omega
  go_enter Tryz.func72, Tryz.ntmps72
  go_wp2_with fail
  go_loop [0, 1, 5] (fun x y _ => ∃ (A B : Nat), x = .int .i64 A ∧ y = .int .i64 B ∧ A ≤ 1000000000000000000 ∧ B ≤ 1000000000000000000 ∧ Hid (Nat.gcd A B = Nat.gcd a.toNat b.toNat)) (fun _ y _ => (intOf y).toNat)
  case atStart => exact ⟨a.toNat, b.toNat, by rw [Int.toNat_of_nonneg ha], by rw [Int.toNat_of_nonneg hb], by omega, by omega, Lib.hid rfl⟩
  case round =>
    obtain ⟨A, B, rfl, rfl, hA, hB, HG⟩ := hrel
    by_cases hz : B = 0
    · subst hz
      have HR := Lib.hid (show A = Nat.gcd a.toNat b.toNat by rw [← HG.out, Nat.gcd_zero_right])
      go_wp2
      go_ret
      exact ⟨by rw [← HR.out]; rfl, rfl⟩
    · have hl := Nat.mod_lt A (show 0 < B by omega)
      have HE := Lib.hid (show Nat.gcd B (A % B) = Nat.gcd a.toNat b.toNat by rw [← HG.out, Nat.gcd_comm A B, Nat.gcd_rec B A, Nat.gcd_comm])
      have s0 : ((B : Int) == 0) = false := by simp; omega
      have s1 : (0 : Int) < (B : Int) := by omega
      have s2 : ¬ (B : Int) = 0 := by omega
      have e1 : (A : Int).tmod (B : Int) = ((A % B : Nat) : Int) := by rw [Int.tmod_eq_emod_of_nonneg (by omega)]; rfl
      go_wp2
      exact ⟨⟨B, A % B, rfl, (by first | rfl | (push_cast; rfl)), hB, by omega, HE⟩, by simp [intOf]; omega⟩

end Go.Proofs.YteijannfbafdpaaGreatDoor
/- Binomial numbers and their divisors: both sides. -/
set_option linter.unusedSimpArgs false
set_option linter.unusedVariables false
namespace Go.Proofs.YteijannfbafdpaaGreatDoor
open Go.RowKit

theorem bin_range : ∀ n k, 0 ≤ bin n k ∧ bin n k ≤ 2 ^ n
  | 0, 0 => ⟨by decide, by decide⟩
  | 0, k + 1 => ⟨by show (0 : Int) ≤ 0; omega, by show (0 : Int) ≤ 1; omega⟩
  | n + 1, 0 => ⟨by show (0 : Int) ≤ 1; omega, by
    have h := (bin_range n 0)
    show (1 : Int) ≤ _
    rw [Int.pow_succ]
    rw [bin_0] at h
    omega⟩
  | n + 1, k + 1 => by
    have h := bin_range n k
    have h' := bin_range n (k + 1)
    show 0 ≤ bin n k + bin n (k + 1) ∧ bin n k + bin n (k + 1) ≤ _
    rw [Int.pow_succ]
    omega
theorem bin_r10 {n : Nat} (hn : n ≤ 10) (k : Nat) : 0 ≤ bin n k ∧ bin n k ≤ 1024 := by
  have h := bin_range n k
  have : (2 : Int) ^ n ≤ 2 ^ 10 := by
    have := Nat.pow_le_pow_right (n := 2) (by omega) hn
    exact_mod_cast this
  exact ⟨h.1, Int.le_trans h.2 this⟩

set_option maxHeartbeats 1000000 in
set_option maxRecDepth 100000 in
theorem l01Binomial_c (n k : Nat) (w : World) (hk : k ≤ n) (hn : n ≤ 10) :
    Calls Tryz.prog 46 #[.int .i64 n, .int .i64 k] w fun e w' => e = .returned (.int .i64 (bin n k)) ∧ Below w.heap.size w w' := by
  have g0 : ¬ (n : Int) < (k : Int) := by omega
  have g1 : ¬ (k : Int) < 0 := by omega
  go_enter Tryz.func46, Tryz.ntmps46
  go_wp2_with fail
  have O1 := OwI.lit w [1] (by decide)
  have B1 : Below w.heap.size w (w.alloc (.cells #[.int .i64 1] 2)) := (by (repeat (first | exact bR _ _ | (refine bS ?_ _) | (refine bA ?_ _) | (refine bN ?_ _) | (refine bD ?_))))
  simp at O1
  generalize w.alloc (.cells #[.int .i64 1] 2) = w1 at O1 B1 ⊢
  go_loopw [5, 6] (fun row i wr => ∃ q : Nat, q ≤ n ∧ i = .int .i64 q ∧ RdI wr row (mk (q + 1) (bin q)) ∧ Below w.heap.size w wr) (fun _ i _ => n - (intOf i).toNat)
  case atStart => exact ⟨0, Nat.zero_le _, rfl, O1.rd, B1⟩
  case round =>
    clear O1 B1
    obtain ⟨q, hq, rfl, hR, hB⟩ := hrel
    obtain ⟨wo, rfl⟩ : ∃ wo : World, wo = wr := ⟨_, rfl⟩
    have hl : (mk (q + 1) (bin q)).length = q + 1 := mk_len _ _
    obtain ⟨o, c, rfl, hmx, -⟩ := id hR
    unfold maxLen at hmx
    rw [hl] at hR hmx ⊢
    obtain ⟨bx, fx, rfl, -⟩ := hR.cells (by rw [hl]; omega)
    have hBs := hB.size
    by_cases hlt : q < n
    · have i0 : (q : Int) < (n : Int) := by omega
      have O2 := OwI.lit wo [1] (by decide)
      have B2 : Below wo.heap.size wo (wo.alloc (.cells #[.int .i64 1] 2)) := (by (repeat (first | exact bR _ _ | (refine bS ?_ _) | (refine bA ?_ _) | (refine bN ?_ _) | (refine bD ?_))))
      simp at O2
      rw [show [(1 : Int)] = mk 1 (bin (q + 1)) from rfl] at O2
      go_wp2_with fail
      generalize wo.alloc (.cells #[.int .i64 1] 2) = w2 at O2 B2 ⊢
      go_loopw [7, 8] (fun s i wi => ∃ j : Nat, j ≤ q ∧ i = .int .i64 ((j : Int) + 1) ∧ OwI wi wo.heap.size s (mk (j + 1) (bin (q + 1))) ∧ Below wo.heap.size wo wi) (fun _ i _ => q + 1 - (intOf i).toNat)
      case atStart => exact ⟨0, Nat.zero_le _, rfl, O2, B2⟩
      case round =>
        clear O2 B2
        obtain ⟨j, hj, rfl, hO, hBi⟩ := hrel
        obtain ⟨ov, cv, rfl⟩ := hO.shapeN (n := j + 1) (mk_len _ _)
        by_cases hjl : j < q
        · have cx := (hR.below hBi (Nat.le_refl _)).cell0 (mk_get (f := bin q) (show j < q + 1 by omega))
          have cy := (hR.below hBi (Nat.le_refl _)).cell0 (mk_get (f := bin q) (show j + 1 < q + 1 by omega))
          have r1 := bin_r10 (show q ≤ 10 by omega) j
          have r2 := bin_r10 (show q ≤ 10 by omega) (j + 1)
          have i1 : (0 : Int) ≤ (j : Int) + 1 := by omega
          have i2 : (j : Int) + 1 < (q : Int) + 1 := by omega
          have i2' : (j : Int) < (q : Int) := by omega
          have i3 : (0 : Int) ≤ (j : Int) := by omega
          have i4 : (j : Int) < (q : Int) + 1 := by omega
          have i7 : ((j : Int) + 1).toNat = j + 1 := by omega
          have e0 : IntKind.i64.wrap ((j : Int) + 1 - 1) = (j : Int) := by rw [IntWalk.i64_in _ (by omega)]; omega
          have e0' : IntKind.i64.wrap (j : Int) = (j : Int) := IntWalk.i64_in _ (by omega)
          have e1 : IntKind.i64.wrap (bin q j + bin q (j + 1)) = bin q j + bin q (j + 1) := IntWalk.i64_in _ (by omega)
          have HS := Lib.hid (show mk (j + 1 + 1) (bin (q + 1)) = mk (j + 1) (bin (q + 1)) ++ [bin q j + bin q (j + 1)] by rw [mk_snoc]; rfl)
          have hBis := hBi.size
          go_wp2_with fail
          go_region_held3 (fun w' => w'.cell? ⟨bx, fx + j, none⟩ = some (.int .i64 (bin q j)) ∧ w'.cell? ⟨bx, fx + (j + 1), none⟩ = some (.int .i64 (bin q (j + 1)))) (go_keep)
            ((refine stI wr rfl _ _ rfl wo.heap.size (.slice ov (j + 1) cv) _ rfl hO _ rfl (by rw [mk_len]; omega) (by omega) ?_; intro v' w4 hO3 hb3; have cx2 := (hR.below (hBi.trans hb3) (Nat.le_refl _)).cell0 (mk_get (f := bin q) (show j < q + 1 by omega)); have cy2 := (hR.below (hBi.trans hb3) (Nat.le_refl _)).cell0 (mk_get (f := bin q) (show j + 1 < q + 1 by omega))))
          rw [← HS.out] at hO3
          go_wp2
          exact ⟨⟨j + 1, by omega, by go_num, hO3, hBi.trans hb3⟩, by simp [intOf]; omega⟩
        · obtain rfl : j = q := by omega
          have i3 : ¬ ((j : Int) + 1 < (j : Int) + 1) := by omega
          have HS := Lib.hid (show mk (j + 1 + 1) (bin (j + 1)) = mk (j + 1) (bin (j + 1)) ++ [1] by rw [mk_snoc, bin_self])
          have hBis := hBi.size
          go_wp2_with (at_builtin; refine apI wr rfl _ _ rfl wo.heap.size (.slice ov (j + 1) cv) _ rfl hO _ rfl (by rw [mk_len]; omega) (by omega) ?_; intro v' w4 hO3 hgr hb3 hlt3; clear hgr)
          rw [← HS.out] at hO3
          exact ⟨⟨j + 1, by omega, by go_num, hO3.rd, hB.trans ((hBi.trans hb3).mono hBs)⟩, by simp [intOf]; omega⟩
    · obtain rfl : q = n := by omega
      have cx := hR.cell0 (mk_get (f := bin q) (show k < q + 1 by omega))
      have i1 : (k : Int) < (q : Int) + 1 := by omega
      go_wp2
      go_ret
      exact ⟨rfl, hB⟩
end Go.Proofs.YteijannfbafdpaaGreatDoor

/- The divisor of the inner binomial numbers, and Lazard's cocycle as a list. -/
set_option linter.unusedSimpArgs false
set_option linter.unusedVariables false
namespace Go.Proofs.YteijannfbafdpaaGreatDoor
open Go.RowKit

def lamTo (n : Nat) : Nat → Int
  | 0 => 0
  | k + 1 => ((Nat.gcd (lamTo n k).toNat (bin n (k + 1)).toNat : Nat) : Int)
theorem lamTo_range : ∀ n, n ≤ 10 → ∀ k, k ≤ 10 → 0 ≤ lamTo n k ∧ lamTo n k ≤ 1024 := by
  intro n hn k hk
  have h : ∀ n : Fin 11, ∀ k : Fin 11, 0 ≤ lamTo n.1 k.1 ∧ lamTo n.1 k.1 ≤ 1024 := by decide
  exact h ⟨n, by omega⟩ ⟨k, by omega⟩
theorem lamTo_lam : ∀ n, n ≤ 10 → lamTo n (n - 1) = lam n := by
  intro n hn
  have h : ∀ n : Fin 11, lamTo n.1 (n.1 - 1) = lam n.1 := by decide
  exact h ⟨n, by omega⟩
theorem lam_range : ∀ n, 2 ≤ n → n ≤ 10 → 1 ≤ lam n ∧ lam n ≤ 7 := by
  intro n h2 hn
  have h : ∀ n : Fin 11, 2 ≤ n.1 → 1 ≤ lam n.1 ∧ lam n.1 ≤ 7 := by decide
  exact h ⟨n, by omega⟩ h2

theorem l01Binomial_i (a b : Int) (n k : Nat) (w : World) (ha : a = n) (hb : b = k) (hk : k ≤ n) (hn : n ≤ 10) :
    Calls Tryz.prog 46 #[.int .i64 a, .int .i64 b] w fun e w' => e = .returned (.int .i64 (bin n k)) ∧ Below w.heap.size w w' := by
  subst ha hb
  exact l01Binomial_c n k w hk hn

set_option maxHeartbeats 1000000 in
set_option maxRecDepth 100000 in
theorem l01Lazard_c (n : Nat) (w : World) (h2 : 2 ≤ n) (hn : n ≤ 10) :
    Calls Tryz.prog 45 #[.int .i64 n] w fun e w' => e = .returned (.int .i64 (lam n)) ∧ Below w.heap.size w w' := by
  go_enter Tryz.func45, Tryz.ntmps45
  go_wp2_with fail
  go_loopw [3, 4] (fun d i wr => ∃ q : Nat, q ≤ n - 1 ∧ i = .int .i64 ((q : Int) + 1) ∧ d = .int .i64 (lamTo n q) ∧ Below w.heap.size w wr) (fun _ i _ => n - (intOf i).toNat)
  case atStart => exact ⟨0, Nat.zero_le _, rfl, rfl, Below.refl _ _⟩
  case round =>
    obtain ⟨q, hq, rfl, rfl, hB⟩ := hrel
    have hBs := hB.size
    by_cases hlt : q < n - 1
    · have i1 : (q : Int) + 1 < (n : Int) := by omega
      have r1 := lamTo_range n hn q (by omega)
      have r2 := bin_r10 hn (q + 1)
      have HL := Lib.hid (show ((Nat.gcd (lamTo n q).toNat (bin n (q + 1)).toNat : Nat) : Int) = lamTo n (q + 1) from rfl)
      go_wp2_with fail
      refine (l01Binomial_i (n : Int) ((q : Int) + 1) n (q + 1) _ rfl (by omega) (by omega) hn).mono ?_
      rintro e w2 ⟨rfl, hb2⟩
      go_wp2_with fail
      refine (l01Gcd_c (lamTo n q) (bin n (q + 1)) _ (by omega) (by omega) (by omega) (by omega)).mono ?_
      rintro e w3 ⟨rfl, rfl⟩
      rw [HL.out]
      go_wp2
      exact ⟨⟨q + 1, by omega, by go_num, rfl, (by (repeat (first | exact bR _ _ | (refine bS ?_ _) | (refine bA ?_ _) | (refine bN ?_ _) | (refine bD ?_) | (refine bT ?_ hb2) | (refine bT ?_ hB))))⟩, by simp [intOf]; omega⟩
    · obtain rfl : q = n - 1 := by omega
      have i1 : ¬ ((n - 1 : Nat) : Int) + 1 < (n : Int) := by omega
      rw [lamTo_lam n hn]
      go_wp2
      go_ret
      exact ⟨rfl, hB⟩
theorem laz_quo {n i : Nat} (h2 : 2 ≤ n) (hn : n ≤ 10) (h1 : 1 ≤ i) (hi : i < n) : (bin n i).tdiv (lam n) = laz n i := by
  unfold laz
  rw [if_pos ⟨h1, hi⟩, Int.tdiv_eq_ediv_of_nonneg (bin_r10 hn i).1]
theorem laz_out {n i : Nat} (h : n ≤ i) : laz n i = 0 := by unfold laz; rw [if_neg (by omega)]
end Go.Proofs.YteijannfbafdpaaGreatDoor

/- The factor of a cocycle: the program's search. -/
set_option linter.unusedSimpArgs false
set_option linter.unusedVariables false
namespace Go.Proofs.YteijannfbafdpaaGreatDoor
open Go.RowKit

theorem laz_range {n : Nat} (h2 : 2 ≤ n) (hn : n ≤ 10) (i : Nat) : 0 ≤ laz n i ∧ laz n i ≤ 1024 := by
  unfold laz
  by_cases h : 1 ≤ i ∧ i < n
  · rw [if_pos h]
    have r := bin_r10 hn i
    have l := lam_range n h2 hn
    exact ⟨Int.ediv_nonneg r.1 (by omega), Int.le_trans (Int.ediv_le_self _ r.1) r.2⟩
  · rw [if_neg h]; omega

end Go.Proofs.YteijannfbafdpaaGreatDoor
set_option linter.unusedSimpArgs false
set_option linter.unusedVariables false
namespace Go.Proofs.YteijannfbafdpaaGreatDoor
open Go.RowKit

set_option maxHeartbeats 1000000 in
set_option maxRecDepth 100000 in
theorem l03Zero_c (d : Int) (n : Nat) (w : World) (hd : d = (n : Int) - 1) (hn : n ≤ 1000) :
    Calls Tryz.prog 44 #[.int .i64 d] w fun e w' => ∃ v', e = .returned v' ∧ OwS w' w.heap.size v' (zeroT n) ∧ Below w.heap.size w w' := by
  subst hd
  go_enter Tryz.func44, Tryz.ntmps44
  go_wp2_with fail
  have O1 := OwS.lit0 w
  have B1 : Below w.heap.size w (w.alloc (.cells #[] 34)) := (by (repeat (first | exact bR _ _ | (refine bS ?_ _) | (refine bA ?_ _) | (refine bN ?_ _) | (refine bD ?_))))
  generalize w.alloc (.cells #[] 34) = w1 at O1 B1 ⊢
  go_loopw [3, 4] (fun s i wr => ∃ (k : Nat) (ov : Option Addr) (cv : Nat), k ≤ n ∧ i = .int .i64 k ∧ s = .slice ov k cv ∧ OwS wr w.heap.size (.slice ov k cv) (zeroRows n k) ∧ Below w.heap.size w wr) (fun _ i _ => n - (intOf i).toNat)
  case atStart => exact ⟨0, _, _, Nat.zero_le _, rfl, rfl, O1, B1⟩
  case round =>
    obtain ⟨k, ov, cv, hk, rfl, rfl, hO, hB⟩ := hrel
    by_cases hlt : k < n
    · have i1 : (k : Int) ≤ (n : Int) - 1 := by omega
      have hBs := hB.size
      have HS := Lib.hid (zeroRows_snoc n k)
      have HLn := Lib.hid (zeroRows_len n k)
      generalize zeroRows n k = l at hO HS HLn
      go_wp2_with (first
        | (at_make; go_loud (refine mkI _ rfl _ _ rfl _ _ _ (n - k) rfl rfl (by omega) (by omega) ?_; intro w2 how hb2 hs2; have hz2 : wr.heap.size < w2.heap.size := (by omega); clear hs2))
        | (at_builtin; obtain ⟨W, hW⟩ : ∃ W : World, W = w2.alloc (.cells #[.slice (some ⟨wr.heap.size, 0, none⟩) (n - k) (n - k)] 34) := ⟨_, rfl⟩; have hWs : W.heap.size = w2.heap.size + 1 := (by rw [hW]; simp); have hT : OwSR w.heap.size wr.heap.size W (.slice ov k cv) l := (by rw [hW]; exact hO.toR.stay (fun j _ hj => (Below.heap_alloc _ _ j (by omega)).trans (hb2.block j hj))); have hU : OwI W wr.heap.size (.slice (some ⟨wr.heap.size, 0, none⟩) (n - k) (n - k)) (List.replicate (n - k) 0) := (by rw [hW]; exact how.alloc _); have hC : W.cell? ⟨w2.heap.size, 0, none⟩ = some (.slice (some ⟨wr.heap.size, 0, none⟩) (n - k) (n - k)) := (by rw [hW]; simp); have B3 : Below w.heap.size w W := (by rw [hW]; exact hB.trans ((((Below.refl wr.heap.size wr).trans hb2).alloc (Nat.le_of_lt hz2) _).mono hBs)); rw [← hW]; have HW := Lib.hid hW; clear hW; go_loud (refine apT W rfl _ _ rfl w.heap.size wr.heap.size (.slice ov k cv) l rfl hT (by omega) hBs _ _ w2.heap.size rfl hC hU (by rw [HLn.out]; omega) ?_; intro g cap w3 hO3 hgr hb3; clear hgr; have B4 := B3.trans hb3)))
      rw [HLn.out, ← HS.out] at hO3
      exact ⟨⟨k + 1, _, _, by omega, by go_num, by rw [HLn.out], hO3, B4⟩, by simp [intOf]; omega⟩
    · obtain rfl : k = n := by omega
      have i1 : ¬ (k : Int) ≤ (k : Int) - 1 := by omega
      rw [zeroRows_all] at hO
      go_wp2
      go_ret
      exact ⟨_, rfl, hO, hB⟩

set_option maxHeartbeats 1000000 in
set_option maxRecDepth 100000 in
theorem l03Add_c (m : Int) (v u : Value) (xss yss : List (List Int)) (w : World) (hv : RdT w v xss) (hu : RdT w u yss) (hm : 2 ≤ m) (hm' : m ≤ 1000000000000) (hn : xss.length ≤ 1000) (hl : yss.length = xss.length)
    (hx : ∀ i (hi : i < xss.length), xss[i].length = xss.length - i ∧ ∀ x ∈ xss[i], 0 ≤ x ∧ x < m) (hy : ∀ i (hi : i < yss.length), yss[i].length = yss.length - i ∧ ∀ x ∈ yss[i], 0 ≤ x ∧ x < m) :
    Calls Tryz.prog 27 #[.int .i64 m, v, u] w fun e w' => ∃ v', e = .returned v' ∧ OwS w' w.heap.size v' (addT m xss.length xss yss) ∧ Below w.heap.size w w' := by
  obtain ⟨o, c, rfl, hmx, -⟩ := id hv
  obtain ⟨o', c', rfl, hmy, -⟩ := id hu
  unfold maxLen at hmx hmy
  have HL := Lib.hid hl
  have HX := Lib.hid hx
  have HY := Lib.hid hy
  clear hl hx hy
  go_enter Tryz.func27, Tryz.ntmps27
  go_wp2_with fail
  have O1 := OwS.lit0 w
  have B1 : Below w.heap.size w (w.alloc (.cells #[] 34)) := (by (repeat (first | exact bR _ _ | (refine bS ?_ _) | (refine bA ?_ _) | (refine bN ?_ _) | (refine bD ?_))))
  generalize w.alloc (.cells #[] 34) = w1 at O1 B1 ⊢
  go_loopw [7, 8] (fun s i wr => ∃ (k : Nat) (ov : Option Addr) (cv : Nat), k ≤ xss.length ∧ i = .int .i64 k ∧ s = .slice ov k cv ∧ OwS wr w.heap.size (.slice ov k cv) ((List.range k).map (fun i => mk (xss.length - i) ((fun i j => (atT xss i j + atT yss i j) % m) i))) ∧ Below w.heap.size w wr) (fun _ i _ => xss.length - (intOf i).toNat)
  case atStart => exact ⟨0, _, _, Nat.zero_le _, rfl, rfl, O1, B1⟩
  case round =>
    obtain ⟨k, ov, cv, hk, rfl, rfl, hO, hB⟩ := hrel
    by_cases hlt : k < xss.length
    · have hly : k < yss.length := by have := HL.out; omega
      have hxl := (HX.out k hlt).1
      have hyl := (HY.out k hly).1
      have HE := Lib.hid (show addL m xss[k].length xss[k] yss[k] = mk (xss.length - k) (fun j => (atT xss k j + atT yss k j) % m) by
        unfold addL; rw [hxl]; exact mk_ext fun j _ => by rw [atT_row hlt, atT_row hly])
      have hrl : xss[k].length ≤ yss[k].length := by rw [hxl, hyl, HL.out]; exact Nat.le_refl _
      have hrn : xss[k].length ≤ 1000 := by omega
      have HEl := Lib.hid (addL_len m xss[k].length xss[k] yss[k])
      clear hxl hyl
      obtain ⟨bx, fx, rfl, -⟩ := hv.rows (by omega)
      obtain ⟨by', fy, rfl, -⟩ := hu.rows (by omega)
      obtain ⟨o1, c1, cx0, rx0⟩ := hv.row (show xss[k]? = some xss[k] by simp [hlt])
      obtain ⟨o2, c2, cy0, ry0⟩ := hu.row (show yss[k]? = some yss[k] by simp [hly])
      have cx := keep_cell hB (Nat.le_refl _) cx0
      have cy := keep_cell hB (Nat.le_refl _) cy0
      have rx := rx0.below hB (Nat.le_refl _)
      have ry := ry0.below hB (Nat.le_refl _)
      have hBs := hB.size
      have hclx := cell_lt cx
      have hcly := cell_lt cy
      have HS := Lib.hid (tri_snoc_rows xss.length k (fun i j => (atT xss i j + atT yss i j) % m))
      have HLn := Lib.hid (show ((List.range k).map (fun i => mk (xss.length - i) ((fun i j => (atT xss i j + atT yss i j) % m) i))).length = k by simp)
      generalize (List.range k).map (fun i => mk (xss.length - i) ((fun i j => (atT xss i j + atT yss i j) % m) i)) = l at hO HS HLn
      have i0 : (0 : Int) ≤ (k : Int) := by omega
      have i1 : (k : Int) < (xss.length : Int) := by omega
      have i2 : (k : Int) < (yss.length : Int) := by omega
      go_wp2_with fail
      go_region_held3 (fun w' => w'.cell? ⟨bx, fx + k, none⟩ = some (.slice o1 xss[k].length c1) ∧ w'.cell? ⟨by', fy + k, none⟩ = some (.slice o2 yss[k].length c2)) (go_keep)
        (first
          | (go_at_call 51; refine (l02Add_c m _ _ xss[k] yss[k] _ (rx.below (Below.refl _ _).drew (Nat.le_refl _)) (ry.below (Below.refl _ _).drew (Nat.le_refl _)) hrl (by omega) hm hm' (HX.out k hlt).2 (HY.out k hly).2).mono ?_; rintro e w2 ⟨va, rfl, how, hb2⟩; obtain ⟨oa, ca, rfl⟩ := how.shapeN (n := xss[k].length) HEl.out; have hb2' : Below wr.heap.size wr w2 := ((Below.refl wr.heap.size wr).drew).trans hb2; have how' : OwI w2 wr.heap.size (.slice oa xss[k].length ca) (addL m xss[k].length xss[k] yss[k]) := how; have hz2 := hb2'.size; have cx2 := keep_cell hb2' (Nat.le_refl _) cx; have cy2 := keep_cell hb2' (Nat.le_refl _) cy)
          | (have hq2 := hz2; (obtain ⟨W, hW⟩ : ∃ W : World, W = w2.alloc (.cells #[.slice oa xss[k].length ca] 34) := ⟨_, rfl⟩); have hWs : W.heap.size = w2.heap.size + 1 := (by rw [hW]; simp); have hT : OwSR w.heap.size wr.heap.size W (.slice ov k cv) l := (by rw [hW]; exact hO.toR.stay (fun j _ hj => (Below.heap_alloc _ _ j (by omega)).trans (hb2'.block j hj))); have hU : OwI W wr.heap.size (.slice oa xss[k].length ca) (addL m xss[k].length xss[k] yss[k]) := (by rw [hW]; exact how'.alloc _); have hC : W.cell? ⟨w2.heap.size, 0, none⟩ = some (.slice oa xss[k].length ca) := (by rw [hW]; simp); have B3 : Below w.heap.size w W := (by rw [hW]; exact hB.trans ((((Below.refl wr.heap.size wr).trans hb2').alloc hz2 _).mono hBs)); rw [← hW]; have HW := Lib.hid hW; clear hW; refine stT W rfl _ _ rfl w.heap.size wr.heap.size (.slice ov k cv) l rfl hT (by omega) hBs _ _ w2.heap.size rfl hC hU (by rw [HLn.out]; omega) ?_; intro g cap w3 hO3 hgr hb3; clear hgr; have B4 := B3.trans hb3; have cx3 := keep_cell B4 (Nat.le_refl _) cx0; have cy3 := keep_cell B4 (Nat.le_refl _) cy0)
          | fail)
      rw [HE.out, HLn.out, ← HS.out] at hO3
      go_wp2
      exact ⟨⟨k + 1, _, _, by omega, by go_num, by rw [HLn.out], hO3, B4⟩, by simp [intOf]; omega⟩
    · obtain rfl : k = xss.length := by omega
      go_wp2
      go_ret
      exact ⟨_, rfl, hO, hB⟩

end Go.Proofs.YteijannfbafdpaaGreatDoor
