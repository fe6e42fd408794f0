/- The defects of a law: the program's closure. -/
import Derived.Test.YtflebfmkgmhccaaPowP
import Derived.Test.YtflebfmkgmhccaaFauB
import Derived.Deep.DeepCutAuto
set_option linter.unusedSimpArgs false
set_option linter.unusedVariables false
namespace Go.Proofs.Ytflebfmkgmhccaa
open Go.RowKit

set_option maxHeartbeats 2000000 in
set_option maxRecDepth 100000 in
theorem defects1_c (m : Int) (n : Nat) (t : List (List Int)) (bd bf bp : Nat) (o op : Option Addr) (k kp : Nat) (a b c : Nat) (w : World) (hd : w.cell? ⟨bd, 0, none⟩ = some (.int .i64 ((n : Int) - 1))) (hf : Box2 w bf (.int .i64 m) (.slice o n k)) (hv : RdT w (.slice o n k) t)
    (hp : w.cell? ⟨bp, 0, none⟩ = some (.slice op n kp)) (hP : RdLP w (.slice op n kp) m (powsT m n t n)) (h1 : 1 ≤ n) (hn : n ≤ 1000) (hm : 2 ≤ m) (hm' : m ≤ 10000) (ht : PlaT m n t) (habc : a + b + c < n) :
    Calls Try.prog 147 #[.int .i64 a, .int .i64 b, .int .i64 c, .pointer (some ⟨bd, 0, none⟩), .pointer (some ⟨bf, 0, none⟩), .pointer (some ⟨bp, 0, none⟩)] w fun e w' => e = .returned (.int .i64 (defC m n t a b c)) ∧ ∃ d, w' = w.drewN d := by
  obtain ⟨bt, ft, rfl, -⟩ := hv.rows (by rw [ht.1]; omega)
  obtain ⟨bl, fl, rfl⟩ := hP.base (by rw [powsT_len]; omega)
  have HT := Lib.hid ht
  clear ht
  have m0 : (m == 0) = false := by simp; omega
  have m1 : ¬ m = 0 := by omega
  have a0 : (0 : Int) ≤ (a : Int) := by omega
  have b0 : (0 : Int) ≤ (b : Int) := by omega
  have c0 : (0 : Int) ≤ (c : Int) := by omega
  have ed : IntKind.i64.wrap ((n : Int) - 1 - (c : Int)) = (n : Int) - 1 - (c : Int) := IntWalk.i64_in _ (by omega)
  have ed' : IntKind.i64.wrap ((n : Int) - 1 - (a : Int)) = (n : Int) - 1 - (a : Int) := IntWalk.i64_in _ (by omega)
  go_enter Try.func147, Try.ntmps147
  go_wp2_with fail
  go_loopw [10, 12] (fun s i wr => ∃ j : Nat, j ≤ n - c ∧ i = .int .i64 j ∧ s = .int .i64 (lefS m n t a b c j) ∧ ∃ d, wr = w.drewN d) (fun _ i _ => n - c - (intOf i).toNat)
  case atStart => exact ⟨0, Nat.zero_le _, rfl, rfl, 0, rfl⟩
  case round =>
    obtain ⟨j, hj, rfl, rfl, d, rfl⟩ := hrel
    obtain ⟨f0, f1⟩ := id hf
    by_cases hlt : j < n - c
    · obtain ⟨r1, hr1, hl1, hj1⟩ := HT.out.row (show j < n by omega)
      obtain ⟨p1, q1, cx, rx⟩ := hv.row hr1
      rw [hl1] at cx rx
      obtain ⟨b1, f1', rfl, -⟩ := rx.cells (by omega)
      have ex := rx.cell0 (hj1 c (by omega))
      obtain ⟨o2, k2, y0, y1, hQ⟩ := hP.at (powsT_get (show j < n by omega))
      rw [powT_len] at y1 hQ
      obtain ⟨b2, f2, rfl, -⟩ := hQ.rows (by rw [powT_len]; omega)
      have hok := powT_ok (m := m) (by omega) n t j
      obtain ⟨r2, hr2, hl2, hj2⟩ := hok.row (show a < n by omega)
      obtain ⟨p2, q2, cy, ry⟩ := hQ.row hr2
      rw [hl2] at cy ry
      obtain ⟨b3, f3, rfl, -⟩ := ry.cells (by omega)
      have ey := ry.cell0 (hj2 b (by omega))
      obtain ⟨-, -, -, -, hxa, hxb⟩ := HT.out.at (i := j) (j := c) (by omega)
      obtain ⟨-, -, -, -, hya, hyb⟩ := hok.at (i := a) (j := b) (by omega)
      obtain ⟨hS0, hS1⟩ := sumR_bound (m := m) (by omega) hm' (fun i => atT t i c * atT (powT m n t i) a b) j
      have HS := Lib.hid (lefS_step m n t a b c j)
      change 0 ≤ lefS m n t a b c j at hS0
      change lefS m n t a b c j ≤ _ at hS1
      clear hr1 hl1 hj1 hr2 hl2 hj2 hok
      generalize lefS m n t a b c j = S at hS0 hS1 HS ⊢
      generalize hX' : atT t j c = X at ex hxa hxb HS
      generalize hY' : atT (powT m n t j) a b = Y at ey hya hyb HS
      clear hX' hY'
      obtain ⟨hM0, hM1⟩ := prod_fits hxa hya hxb hyb (show m ≤ 3000000000 by omega)
      have hMm := mod_lt' (a := X * Y) (show 0 < m by omega)
      have j0 : (0 : Int) ≤ (j : Int) := by omega
      have j1 : (j : Int) < (n : Int) := by omega
      have j2 : (j : Int) ≤ (n : Int) - 1 - (c : Int) := by omega
      have j3 : (c : Int) < ((n - j : Nat) : Int) := by omega
      have j4 : (a : Int) < (n : Int) := by omega
      have j5 : (b : Int) < ((n - a : Nat) : Int) := by omega
      go_wp2_with fail
      have e1 : IntKind.i64.wrap (X * Y) = X * Y := IntWalk.i64_in _ (by omega)
      have e2 : (X * Y).tmod m = X * Y % m := Int.tmod_eq_emod_of_nonneg (by omega)
      have e3 : IntKind.i64.wrap (S + X * Y % m) = S + X * Y % m := IntWalk.i64_in _ (by omega)
      go_quiet (fail)
      go_wp2
      exact ⟨⟨j + 1, by omega, by go_num, by rw [HS.out], _, rfl⟩, by simp [intOf]; omega⟩
    · obtain rfl : j = n - c := by omega
      have j2 : ¬ ((n - c : Nat) : Int) ≤ (n : Int) - 1 - (c : Int) := by omega
      go_wp2_with fail
      go_loopw [11, 13] (fun s i wr => ∃ j : Nat, j ≤ n - a ∧ i = .int .i64 j ∧ s = .int .i64 (rigS m n t a b c j) ∧ ∃ d, wr = w.drewN d) (fun _ i _ => n - a - (intOf i).toNat)
      case atStart => exact ⟨0, Nat.zero_le _, rfl, rfl, d, rfl⟩
      case round =>
        obtain ⟨j, hj, rfl, rfl, d, rfl⟩ := hrel
        by_cases hlt : j < n - a
        · obtain ⟨r1, hr1, hl1, hj1⟩ := HT.out.row (show a < n by omega)
          obtain ⟨p1, q1, cx, rx⟩ := hv.row hr1
          rw [hl1] at cx rx
          obtain ⟨b1, f1', rfl, -⟩ := rx.cells (by omega)
          have ex := rx.cell0 (hj1 j (by omega))
          obtain ⟨o2, k2, y0, y1, hQ⟩ := hP.at (powsT_get (show j < n by omega))
          rw [powT_len] at y1 hQ
          obtain ⟨b2, f2, rfl, -⟩ := hQ.rows (by rw [powT_len]; omega)
          have hok := powT_ok (m := m) (by omega) n t j
          obtain ⟨r2, hr2, hl2, hj2⟩ := hok.row (show b < n by omega)
          obtain ⟨p2, q2, cy, ry⟩ := hQ.row hr2
          rw [hl2] at cy ry
          obtain ⟨b3, f3, rfl, -⟩ := ry.cells (by omega)
          have ey := ry.cell0 (hj2 c (by omega))
          obtain ⟨-, -, -, -, hxa, hxb⟩ := HT.out.at (i := a) (j := j) (by omega)
          obtain ⟨-, -, -, -, hya, hyb⟩ := hok.at (i := b) (j := c) (by omega)
          obtain ⟨hS0, hS1⟩ := sumR_bound (m := m) (by omega) hm' (fun j => atT t a j * atT (powT m n t j) b c) j
          have HS := Lib.hid (rigS_step m n t a b c j)
          change 0 ≤ rigS m n t a b c j at hS0
          change rigS m n t a b c j ≤ _ at hS1
          clear hr1 hl1 hj1 hr2 hl2 hj2 hok
          generalize rigS m n t a b c j = S at hS0 hS1 HS ⊢
          generalize hX' : atT t a j = X at ex hxa hxb HS
          generalize hY' : atT (powT m n t j) b c = Y at ey hya hyb HS
          clear hX' hY'
          obtain ⟨hM0, hM1⟩ := prod_fits hxa hya hxb hyb (show m ≤ 3000000000 by omega)
          have hMm := mod_lt' (a := X * Y) (show 0 < m by omega)
          have j0 : (0 : Int) ≤ (j : Int) := by omega
          have j1 : (j : Int) < (n : Int) := by omega
          have j2 : (j : Int) ≤ (n : Int) - 1 - (a : Int) := by omega
          have j3 : (j : Int) < ((n - a : Nat) : Int) := by omega
          have j4 : (a : Int) < (n : Int) := by omega
          have j6 : (b : Int) < (n : Int) := by omega
          have j5 : (c : Int) < ((n - b : Nat) : Int) := by omega
          go_wp2_with fail
          have e1 : IntKind.i64.wrap (X * Y) = X * Y := IntWalk.i64_in _ (by omega)
          have e2 : (X * Y).tmod m = X * Y % m := Int.tmod_eq_emod_of_nonneg (by omega)
          have e3 : IntKind.i64.wrap (S + X * Y % m) = S + X * Y % m := IntWalk.i64_in _ (by omega)
          go_quiet (fail)
          go_wp2
          exact ⟨⟨j + 1, by omega, by go_num, by rw [HS.out], _, rfl⟩, by simp [intOf]; omega⟩
        · obtain rfl : j = n - a := by omega
          have j2' : ¬ ((n - a : Nat) : Int) ≤ (n : Int) - 1 - (a : Int) := by omega
          obtain ⟨hS0, hS1⟩ := sumR_bound (m := m) (by omega) hm' (fun i => atT t i c * atT (powT m n t i) a b) (n - c)
          obtain ⟨hR0, hR1⟩ := sumR_bound (m := m) (by omega) hm' (fun j => atT t a j * atT (powT m n t j) b c) (n - a)
          change 0 ≤ lefS m n t a b c (n - c) at hS0
          change lefS m n t a b c (n - c) ≤ _ at hS1
          change 0 ≤ rigS m n t a b c (n - a) at hR0
          change rigS m n t a b c (n - a) ≤ _ at hR1
          have HD := Lib.hid (show defC m n t a b c = (lefS m n t a b c (n - c) - rigS m n t a b c (n - a)) % m from rfl)
          generalize lefS m n t a b c (n - c) = S at hS0 hS1 HD ⊢
          generalize rigS m n t a b c (n - a) = R at hR0 hR1 HD ⊢
          have e1 : IntKind.i64.wrap (S - R) = S - R := IntWalk.i64_in _ (by omega)
          go_wp2_with fail
          go_at_call 65
          refine (mod_c _ _ _ (by omega) (by omega) (by omega) (by omega)).mono ?_
          rintro e w' ⟨rfl, rfl⟩
          go_wp2
          go_ret
          exact ⟨by rw [HD.out]; rfl, _, rfl⟩
theorem defects1_callable : Callable 147 := fun args w => Try.call147 args w

end Go.Proofs.Ytflebfmkgmhccaa
