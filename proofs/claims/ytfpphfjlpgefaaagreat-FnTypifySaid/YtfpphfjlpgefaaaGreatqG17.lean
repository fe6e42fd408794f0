/- Lemmas. -/
import Derived.Test.YtfpphfjlpgefaaaGreatqG3
import Derived.Test.YtfpphfjlpgefaaaGreatqG12
set_option maxHeartbeats 1000000
set_option linter.unusedSimpArgs false
set_option linter.unusedVariables false
namespace Go.Proofs.YtfpphfjlpgefaaaGreat
open Go.RowKit
section

theorem qEg (n m : Int) (w : World) (hm : 0 < m) (hm' : m ≤ 1000000000000000000) (h1 : -9000000000000000000 ≤ n) (h2 : n ≤ 9000000000000000000) :
  Calls Tryz.prog 171 #[.int .i64 m, .int .i64 n] w fun e w' => e = .returned (.int .i64 (n % m)) ∧ w = w' := by
 have h3 : -m < n.tmod m := Int.lt_tmod_of_pos _ hm
 have h4 : n.tmod m < m := Int.tmod_lt_of_pos _ hm
 have HE := dd (qJZ (n := n) (m := m))
 go_enter Tryz.func171, Tryz.ntmps171
 go_wp2
 go_ret
 exact ⟨by rw [← HE.out]; rfl, rfl⟩

theorem qJ_ (m a : Int) (w : World) (hm : 2 ≤ m) (hm' : m ≤ 1000000000000) (ha : -9000000000000000000 ≤ a) (ha' : a ≤ 9000000000000000000) :
  Calls Tryz.prog 111 #[.int .i64 m, .int .i64 a] w fun e w' => e = .returned (.int .i64 (qAI m a)) ∧ w = w' := by
 have hA := qA6 (a := a) (show 0 < m by omega)
 have hst := EuI.start (m := m.toNat) (a := (a % m).toNat) Oo
 go_enter Tryz.func111, Tryz.ntmps111
 go_wp2_with (go_at_call 126; refine (qBl _ _ _ Oo Oo Oo Oo).mono ?_; rintro e w' ⟨rfl, rfl⟩)
 go_loop [5, 6, 7, 8] (fun x y r s => ∃ (R S : Nat) (X Y : Int), r = .int .i64 R ∧ s = .int .i64 S ∧ x = .int .i64 X ∧ y = .int .i64 Y ∧ EuI m.toNat R S X Y ∧ Hid (eu R S X Y = eu m.toNat (a % m).toNat 0 1)) (fun x y r s => (intOf s).toNat)
 case atStart => exact ⟨m.toNat, (a % m).toNat, 0, 1, by rw [Int.toNat_of_nonneg Oo], by rw [Int.toNat_of_nonneg Oo], rfl, rfl, hst, dd rfl⟩
 case round =>
  obtain ⟨R, S, X, Y, rfl, rfl, rfl, rfl, hE, HE⟩ := hrel; have hb := hE.bounds; have hle := hE.le; have hlt := hE.lt
  by_cases hs : S = 0
  ·subst hs; have HR := dd (show X % m = qAI m a by unfold qAI; rw [← HE.out, eu_0]); have hX := hE.bx
   go_wp2_with (go_at_call 126; refine (qBl _ _ _ Oo Oo Oo Oo).mono ?_; rintro e w' ⟨rfl, rfl⟩)
   go_ret; exact ⟨by rw [← HR.out]; rfl, rfl⟩
  ·have hp := hE.prod hs; have hb2 := (hE.step hs).bounds; have hx := hE.bx; have hq0 : (0 : Int) ≤ ((R / S : Nat) : Int) := Int.natCast_nonneg _; have hqn : R / S ≤ m.toNat := Nat.le_trans (Nat.div_le_self R S) hle
   have hqm : ((R / S : Nat) : Int) ≤ m := by
    generalize R / S = Q at hqn; omega
   have e1 : (R : Int).tdiv (S : Int) = ((R / S : Nat) : Int) := by rw [Int.tdiv_eq_ediv_of_nonneg Oo]; rfl
   have e2 : (R : Int) - ((R / S : Nat) : Int) * (S : Int) = ((R % S : Nat) : Int) := by
    have e := Nat.div_add_mod R S; have : ((S * (R / S) + R % S : Nat) : Int) = (R : Int) := by rw [e]
    push_cast at this ⊢; grind
   have e3 : ((R / S : Nat) : Int) * (S : Int) ≤ (R : Int) := by
    have : (0 : Int) ≤ ((R % S : Nat) : Int) := Oo; omega
   have e4 : 0 ≤ ((R / S : Nat) : Int) * (S : Int) := Int.mul_nonneg hq0 Oo; have s0 : ((S : Int) == 0) = false := by simp; omega
   have s1 : ¬ (S : Int) = 0 := Oo; have s2 : (0 : Int) < (S : Int) := Oo; have hst2 := hE.step hs; have HE2 := dd (show eu S (R % S) Y (X - ((R / S : Nat) : Int) * Y) = eu m.toNat (a % m).toNat 0 1 by rw [← eu_s hs]; exact HE.out); have hml := Nat.mod_lt R (show 0 < S by omega); clear hs; generalize ((R / S : Nat) : Int) = q at *; go_wp2; exact ⟨⟨S, R % S, Y, X - q * Y, rfl, by rw [← e2]; go_num, rfl, by go_num, hst2, HE2⟩, by simp [intOf]; omega⟩
theorem qFp (m a : Int) (w : World) (hm : 2 ≤ m) (hm' : m ≤ 1000000000000) (ha : -9000000000000000000 ≤ a) (ha' : a ≤ 9000000000000000000) :
  Calls Tryz.prog 120 #[.int .i64 m, .int .i64 a] w fun e w' => e = .returned (.int .i64 (qAI m a)) ∧ w = w' := by
 have hA := qA6 (a := a) (show 0 < m by omega)
 have hst := EuI.start (m := m.toNat) (a := (a % m).toNat) Oo
 go_enter Tryz.func120, Tryz.ntmps120
 go_wp2_with (go_at_call 171; refine (qEg _ _ _ Oo Oo Oo Oo).mono ?_; rintro e w' ⟨rfl, rfl⟩)
 go_loop [5, 6, 7, 8] (fun r s x y => ∃ (R S : Nat) (X Y : Int), r = .int .i64 R ∧ s = .int .i64 S ∧ x = .int .i64 X ∧ y = .int .i64 Y ∧ EuI m.toNat R S X Y ∧ Hid (eu R S X Y = eu m.toNat (a % m).toNat 0 1)) (fun r s x y => (intOf s).toNat)
 case atStart => exact ⟨m.toNat, (a % m).toNat, 0, 1, by rw [Int.toNat_of_nonneg Oo], by rw [Int.toNat_of_nonneg Oo], rfl, rfl, hst, dd rfl⟩
 case round =>
  obtain ⟨R, S, X, Y, rfl, rfl, rfl, rfl, hE, HE⟩ := hrel; have hb := hE.bounds; have hle := hE.le; have hlt := hE.lt
  by_cases hs : S = 0
  ·subst hs; have HR := dd (show X % m = qAI m a by unfold qAI; rw [← HE.out, eu_0]); have hX := hE.bx
   go_wp2_with (go_at_call 171; refine (qEg _ _ _ Oo Oo Oo Oo).mono ?_; rintro e w' ⟨rfl, rfl⟩)
   go_ret; exact ⟨by rw [← HR.out]; rfl, rfl⟩
  ·have hp := hE.prod hs; have hb2 := (hE.step hs).bounds; have hx := hE.bx; have hq0 : (0 : Int) ≤ ((R / S : Nat) : Int) := Int.natCast_nonneg _; have hqn : R / S ≤ m.toNat := Nat.le_trans (Nat.div_le_self R S) hle
   have hqm : ((R / S : Nat) : Int) ≤ m := by
    generalize R / S = Q at hqn; omega
   have e1 : (R : Int).tdiv (S : Int) = ((R / S : Nat) : Int) := by rw [Int.tdiv_eq_ediv_of_nonneg Oo]; rfl
   have e2 : (R : Int) - ((R / S : Nat) : Int) * (S : Int) = ((R % S : Nat) : Int) := by
    have e := Nat.div_add_mod R S; have : ((S * (R / S) + R % S : Nat) : Int) = (R : Int) := by rw [e]
    push_cast at this ⊢; grind
   have e3 : ((R / S : Nat) : Int) * (S : Int) ≤ (R : Int) := by
    have : (0 : Int) ≤ ((R % S : Nat) : Int) := Oo; omega
   have e4 : 0 ≤ ((R / S : Nat) : Int) * (S : Int) := Int.mul_nonneg hq0 Oo; have s0 : ((S : Int) == 0) = false := by simp; omega
   have s1 : ¬ (S : Int) = 0 := Oo; have s2 : (0 : Int) < (S : Int) := Oo; have hst2 := hE.step hs; have HE2 := dd (show eu S (R % S) Y (X - ((R / S : Nat) : Int) * Y) = eu m.toNat (a % m).toNat 0 1 by rw [← eu_s hs]; exact HE.out); have hml := Nat.mod_lt R (show 0 < S by omega); clear hs; generalize ((R / S : Nat) : Int) = q at *; go_wp2; exact ⟨⟨S, R % S, Y, X - q * Y, rfl, by rw [← e2]; go_num, rfl, by go_num, hst2, HE2⟩, by simp [intOf]; omega⟩

end
section

theorem gcd_c (a b : Int) (w : World) (ha : 0 ≤ a) (ha' : a ≤ 1000000000000000000) (hb : 0 ≤ b) (hb' : b ≤ 1000000000000000000) :
  Calls Tryz.prog 165 #[.int .i64 a, .int .i64 b] w fun e w' => e = .returned (.int .i64 (Nat.gcd a.toNat b.toNat : Nat)) ∧ ∃ d, w' = w.drewN d := by
 go_enter Tryz.func165, Tryz.ntmps165
 go_wp2_with fail
 go_loopw [0, 1] (fun x y wr => ∃ (A B : Nat), x = .int .i64 A ∧ y = .int .i64 B ∧ A ≤ 1000000000000000000 ∧ B ≤ 1000000000000000000 ∧ Hid (Nat.gcd A B = Nat.gcd a.toNat b.toNat) ∧ ∃ d, wr = w.drewN d) (fun _ y _ => (intOf y).toNat)
 case atStart => exact ⟨a.toNat, b.toNat, by rw [Int.toNat_of_nonneg ha], by rw [Int.toNat_of_nonneg hb], Oo, Oo, dd rfl, 0, rfl⟩
 case round =>
  obtain ⟨A, B, rfl, rfl, hA, hB, HG, d, rfl⟩ := hrel
  by_cases hz : B = 0
  ·subst hz; have HR := dd (show A = Nat.gcd a.toNat b.toNat by rw [← HG.out, Nat.gcd_zero_right]); go_wp2; go_ret; exact ⟨by rw [← HR.out]; rfl, _, rfl⟩
  ·have hl := Nat.mod_lt A (show 0 < B by omega); have HE := dd (show Nat.gcd B (A % B) = Nat.gcd a.toNat b.toNat by rw [← HG.out, Nat.gcd_comm A B, Nat.gcd_rec B A, Nat.gcd_comm]); have s0 : ((B : Int) == 0) = false := by simp; omega
   have s1 : ((B : Int) != 0) = true := by simp; omega
   have s2 : ¬ (B : Int) = 0 := Oo; have e1 : (A : Int).tmod (B : Int) = ((A % B : Nat) : Int) := by rw [Int.tmod_eq_emod_of_nonneg Oo]; rfl
   go_wp2_with fail
   go_quiet (fail)
   go_wp2; exact ⟨⟨B, A % B, rfl, (by first | rfl | (push_cast; rfl)), hB, Oo, HE, d + nq, by rw [World.drewN_drewN]⟩, by simp [intOf]; omega⟩
theorem qQN (a b : Int) (w : World) (ha : 0 ≤ a) (ha' : a ≤ 1000000000000000000) (hb : 0 ≤ b) (hb' : b ≤ 1000000000000000000) :
  Calls Tryz.prog 176 #[.int .i64 a, .int .i64 b] w fun e w' => e = .returned (.int .i64 (Nat.gcd a.toNat b.toNat : Nat)) ∧ w = w' := by
 have c0 : ¬ a < 0 := Oo
 have c1 : ¬ b < 0 := Oo
 go_enter Tryz.func176, Tryz.ntmps176
 go_wp2_with fail
 go_loop [0, 1, 5] (fun x y _ => ∃ (A B : Nat), x = .int .i64 A ∧ y = .int .i64 B ∧ A ≤ 1000000000000000000 ∧ B ≤ 1000000000000000000 ∧ Hid (Nat.gcd A B = Nat.gcd a.toNat b.toNat)) (fun _ y _ => (intOf y).toNat)
 case atStart => exact ⟨a.toNat, b.toNat, by rw [Int.toNat_of_nonneg ha], by rw [Int.toNat_of_nonneg hb], Oo, Oo, dd rfl⟩
 case round =>
  obtain ⟨A, B, rfl, rfl, hA, hB, HG⟩ := hrel
  by_cases hz : B = 0
  ·subst hz; have HR := dd (show A = Nat.gcd a.toNat b.toNat by rw [← HG.out, Nat.gcd_zero_right]); go_wp2; go_ret; exact ⟨by rw [← HR.out]; rfl, rfl⟩
  ·have hl := Nat.mod_lt A (show 0 < B by omega); have HE := dd (show Nat.gcd B (A % B) = Nat.gcd a.toNat b.toNat by rw [← HG.out, Nat.gcd_comm A B, Nat.gcd_rec B A, Nat.gcd_comm]); have s0 : ((B : Int) == 0) = false := by simp; omega
   have s1 : (0 : Int) < (B : Int) := Oo; have s2 : ¬ (B : Int) = 0 := Oo; have e1 : (A : Int).tmod (B : Int) = ((A % B : Nat) : Int) := by rw [Int.tmod_eq_emod_of_nonneg Oo]; rfl
   go_wp2; exact ⟨⟨B, A % B, rfl, (by first | rfl | (push_cast; rfl)), hB, Oo, HE⟩, by simp [intOf]; omega⟩

end
end Go.Proofs.YtfpphfjlpgefaaaGreat
