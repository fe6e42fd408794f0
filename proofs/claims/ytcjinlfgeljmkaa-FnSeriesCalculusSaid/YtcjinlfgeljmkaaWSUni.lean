/- Lemmas of Uni. -/
import Derived.Test.YtcjinlfgeljmkaaWSInv
import Derived.Test.YtcjinlfgeljmkaaWSRev
set_option linter.unusedSimpArgs false
set_option linter.unusedVariables false
namespace Go.Proofs.Ytcjinlfgeljmkaa
open Go.RowKit

set_option maxHeartbeats 1000000 in
theorem gcd_c (a b : Int) (w : World) (ha : 0 ≤ a) (ha' : a ≤ 1000000000000000000) (hb : 0 ≤ b) (hb' : b ≤ 1000000000000000000) :
    Calls Try.prog 208 #[.int .i64 a, .int .i64 b] w fun e w' => e = .returned (.int .i64 (Nat.gcd a.toNat b.toNat : Nat)) ∧ ∃ d, w' = w.drewN d := by
  go_enter Try.func208, Try.ntmps208
  go_wp2_with fail
  go_loopw [0, 1] (fun x y wr => ∃ (A B : Nat), x = .int .i64 A ∧ y = .int .i64 B ∧ A ≤ 1000000000000000000 ∧ B ≤ 1000000000000000000 ∧ Hid (Nat.gcd A B = Nat.gcd a.toNat b.toNat) ∧ ∃ d, wr = w.drewN d) (fun _ y _ => (intOf y).toNat)
  case atStart => exact ⟨a.toNat, b.toNat, by rw [Int.toNat_of_nonneg ha], by rw [Int.toNat_of_nonneg hb], by omega, by omega, Lib.hid rfl, 0, rfl⟩
  case round =>
    obtain ⟨A, B, rfl, rfl, hA, hB, HG, d, rfl⟩ := hrel
    by_cases hz : B = 0
    · subst hz
      have HR := Lib.hid (show A = Nat.gcd a.toNat b.toNat by rw [← HG.out, Nat.gcd_zero_right])
      go_wp2
      go_ret
      exact ⟨by rw [← HR.out]; rfl, _, rfl⟩
    · have hl := Nat.mod_lt A (show 0 < B by omega)
      have HE := Lib.hid (show Nat.gcd B (A % B) = Nat.gcd a.toNat b.toNat by rw [← HG.out, Nat.gcd_comm A B, Nat.gcd_rec B A, Nat.gcd_comm])
      have s0 : ((B : Int) == 0) = false := by simp; omega
      have s1 : ((B : Int) != 0) = true := by simp; omega
      have s2 : ¬ (B : Int) = 0 := by omega
      have e1 : (A : Int).tmod (B : Int) = ((A % B : Nat) : Int) := by rw [Int.tmod_eq_emod_of_nonneg (by omega)]; rfl
      go_wp2_with fail
      go_quiet (fail)
      go_wp2
      exact ⟨⟨B, A % B, rfl, (by first | rfl | (push_cast; rfl)), hB, by omega, HE, d + nq, by rw [World.drewN_drewN]⟩, by simp [intOf]; omega⟩
set_option maxHeartbeats 1000000 in
theorem l01Gcd_c (a b : Int) (w : World) (ha : 0 ≤ a) (ha' : a ≤ 1000000000000000000) (hb : 0 ≤ b) (hb' : b ≤ 1000000000000000000) :
    Calls Try.prog 209 #[.int .i64 a, .int .i64 b] w fun e w' => e = .returned (.int .i64 (Nat.gcd a.toNat b.toNat : Nat)) ∧ w = w' := by
  have c0 : ¬ a < 0 := by omega
  have c1 : ¬ b < 0 := by omega
  go_enter Try.func209, Try.ntmps209
  go_wp2_with fail
  go_loop [0, 1, 5] (fun x y _ => ∃ (A B : Nat), x = .int .i64 A ∧ y = .int .i64 B ∧ A ≤ 1000000000000000000 ∧ B ≤ 1000000000000000000 ∧ Hid (Nat.gcd A B = Nat.gcd a.toNat b.toNat)) (fun _ y _ => (intOf y).toNat)
  case atStart => exact ⟨a.toNat, b.toNat, by rw [Int.toNat_of_nonneg ha], by rw [Int.toNat_of_nonneg hb], by omega, by omega, Lib.hid rfl⟩
  case round =>
    obtain ⟨A, B, rfl, rfl, hA, hB, HG⟩ := hrel
    by_cases hz : B = 0
    · subst hz
      have HR := Lib.hid (show A = Nat.gcd a.toNat b.toNat by rw [← HG.out, Nat.gcd_zero_right])
      go_wp2
      go_ret
      exact ⟨by rw [← HR.out]; rfl, rfl⟩
    · have hl := Nat.mod_lt A (show 0 < B by omega)
      have HE := Lib.hid (show Nat.gcd B (A % B) = Nat.gcd a.toNat b.toNat by rw [← HG.out, Nat.gcd_comm A B, Nat.gcd_rec B A, Nat.gcd_comm])
      have s0 : ((B : Int) == 0) = false := by simp; omega
      have s1 : (0 : Int) < (B : Int) := by omega
      have s2 : ¬ (B : Int) = 0 := by omega
      have e1 : (A : Int).tmod (B : Int) = ((A % B : Nat) : Int) := by rw [Int.tmod_eq_emod_of_nonneg (by omega)]; rfl
      go_wp2
      exact ⟨⟨B, A % B, rfl, (by first | rfl | (push_cast; rfl)), hB, by omega, HE⟩, by simp [intOf]; omega⟩

theorem unitB_cast (m a : Int) : (((Nat.gcd a.toNat m.toNat : Nat) : Int) == 1) = unitB m a := by
  unfold unitB
  rw [Bool.eq_iff_iff]; simp only [beq_iff_eq]; omega

set_option maxHeartbeats 400000 in
theorem isUnit_c (m a : Int) (w : World) (hm : 0 ≤ m) (hm' : m ≤ 1000000000000) (ha : 0 ≤ a) (ha' : a ≤ 1000000000000) :
    Calls Try.prog 117 #[.int .i64 m, .int .i64 a] w fun e w' => e = .returned (.bool (unitB m a)) ∧ ∃ d, w' = w.drewN d := by
  have HU := Lib.hid (unitB_cast m a)
  go_enter Try.func117, Try.ntmps117
  go_wp2_with fail
  refine (gcd_c a m _ (by omega) (by omega) (by omega) (by omega)).mono ?_
  rintro e w' ⟨rfl, d, rfl⟩
  cases hb : (((Nat.gcd a.toNat m.toNat : Nat) : Int) == 1)
  all_goals
    have HB := Lib.hid hb
    go_wp2
    go_ret
    exact ⟨by rw [← HU.out, HB.out]; rfl, _, rfl⟩
set_option maxHeartbeats 400000 in
theorem l01Unit_c (m a : Int) (w : World) (hm : 0 ≤ m) (hm' : m ≤ 1000000000000) (ha : 0 ≤ a) (ha' : a ≤ 1000000000000) :
    Calls Try.prog 119 #[.int .i64 m, .int .i64 a] w fun e w' => e = .returned (.bool (unitB m a)) ∧ w = w' := by
  have HU := Lib.hid (unitB_cast m a)
  go_enter Try.func119, Try.ntmps119
  go_wp2_with fail
  refine (l01Gcd_c a m _ (by omega) (by omega) (by omega) (by omega)).mono ?_
  rintro e w' ⟨rfl, rfl⟩
  cases hb : (((Nat.gcd a.toNat m.toNat : Nat) : Int) == 1)
  all_goals
    have HB := Lib.hid hb
    go_wp2
    go_ret
    exact ⟨by rw [← HU.out, HB.out]; rfl, rfl⟩

set_option maxHeartbeats 1000000 in
theorem areUnits_c (m : Int) (n : Nat) (w : World) (hm : 2 ≤ m) (hm' : m ≤ 1000000000000) (hn : n ≤ 1000000) :
    Calls Try.prog 132 #[.int .i64 m, .int .i64 n] w fun e w' => e = .returned (.bool (unitsB m n)) ∧ ∃ d, w' = w.drewN d := by
  go_enter Try.func132, Try.ntmps132
  go_wp2_with fail
  go_loopw [5] (fun i wr => ∃ k : Nat, k ≤ n ∧ i = .int .i64 ((k : Int) + 1) ∧ Hid (∀ j, j < k → unitB m ((j : Int) + 1) = true) ∧ ∃ d, wr = w.drewN d) (fun i _ => n + 1 - (intOf i).toNat)
  case atStart => exact ⟨0, Nat.zero_le _, rfl, Lib.hid (fun j h => by omega), 0, rfl⟩
  case round =>
    obtain ⟨k, hk, rfl, HQ, d, rfl⟩ := hrel
    by_cases hlt : k < n
    · have i1 : (k : Int) + 1 ≤ (n : Int) := by omega
      cases hu : unitB m ((k : Int) + 1)
      · have HR := Lib.hid (unitsB_f hlt hu)
        go_wp2_with fail
        refine (isUnit_c m ((k : Int) + 1) _ (by omega) (by omega) (by omega) (by omega)).mono ?_
        rw [hu]
        rintro e w' ⟨rfl, d', rfl⟩
        go_wp2
        go_ret
        exact ⟨by rw [HR.out]; rfl, _, rfl⟩
      · have HU := Lib.hid hu
        go_wp2_with fail
        refine (isUnit_c m ((k : Int) + 1) _ (by omega) (by omega) (by omega) (by omega)).mono ?_
        rw [hu]
        rintro e w' ⟨rfl, d', rfl⟩
        go_wp2
        exact ⟨⟨k + 1, by omega, by go_num, Lib.hid (fun j h => by
          rcases Nat.lt_or_ge j k with h | h
          · exact HQ.out j h
          · obtain rfl : j = k := by omega
            exact HU.out), _, rfl⟩, by simp [intOf]; omega⟩
    · have HR := Lib.hid (unitsB_t (m := m) (n := n) (fun j h => HQ.out j (by omega)))
      have i1 : ¬ (k : Int) + 1 ≤ (n : Int) := by omega
      go_wp2
      go_ret
      exact ⟨by rw [HR.out]; rfl, _, rfl⟩
set_option maxHeartbeats 1000000 in
theorem l02Integers_c (m : Int) (n : Nat) (w : World) (hm : 2 ≤ m) (hm' : m ≤ 1000000000000) (hn : n ≤ 1000000) :
    Calls Try.prog 134 #[.int .i64 m, .int .i64 n] w fun e w' => e = .returned (.bool (unitsB m n)) ∧ w = w' := by
  go_enter Try.func134, Try.ntmps134
  go_wp2_with fail
  go_loop [5] (fun i => ∃ k : Nat, k ≤ n ∧ i = .int .i64 ((k : Int) + 1) ∧ Hid (∀ j, j < k → unitB m ((j : Int) + 1) = true)) (fun i => n + 1 - (intOf i).toNat)
  case atStart => exact ⟨0, Nat.zero_le _, rfl, Lib.hid (fun j h => by omega)⟩
  case round =>
    obtain ⟨k, hk, rfl, HQ⟩ := hrel
    by_cases hlt : k < n
    · have i1 : (k : Int) + 1 ≤ (n : Int) := by omega
      cases hu : unitB m ((k : Int) + 1)
      · have HR := Lib.hid (unitsB_f hlt hu)
        go_wp2_with fail
        refine (l01Unit_c m ((k : Int) + 1) _ (by omega) (by omega) (by omega) (by omega)).mono ?_
        rw [hu]
        rintro e w' ⟨rfl, rfl⟩
        go_wp2
        go_ret
        exact ⟨by rw [HR.out]; rfl, rfl⟩
      · have HU := Lib.hid hu
        go_wp2_with fail
        refine (l01Unit_c m ((k : Int) + 1) _ (by omega) (by omega) (by omega) (by omega)).mono ?_
        rw [hu]
        rintro e w' ⟨rfl, rfl⟩
        go_wp2
        exact ⟨⟨k + 1, by omega, by go_num, Lib.hid (fun j h => by
          rcases Nat.lt_or_ge j k with h | h
          · exact HQ.out j h
          · obtain rfl : j = k := by omega
            exact HU.out)⟩, by simp [intOf]; omega⟩
    · have HR := Lib.hid (unitsB_t (m := m) (n := n) (fun j h => HQ.out j (by omega)))
      have i1 : ¬ (k : Int) + 1 ≤ (n : Int) := by omega
      go_wp2
      go_ret
      exact ⟨by rw [HR.out]; rfl, rfl⟩
end Go.Proofs.Ytcjinlfgeljmkaa
