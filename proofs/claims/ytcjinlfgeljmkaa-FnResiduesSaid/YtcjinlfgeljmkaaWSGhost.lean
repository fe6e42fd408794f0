/- Lemmas of Ghost. -/
import Derived.Test.YtcjinlfgeljmkaaWSG3
import Derived.Test.YtcjinlfgeljmkaaWSG1
set_option linter.unusedSimpArgs false
set_option linter.unusedVariables false
namespace Go.Proofs.Ytcjinlfgeljmkaa
open Go.RowKit

theorem P4.bounds {p : Nat} (hp : P4 p) : 1 ≤ (p : Int) ∧ (p : Int) ≤ 7 := by rcases hp with rfl | rfl | rfl | rfl <;> decide
theorem P4.pow3 {p : Nat} (hp : P4 p) {k : Nat} (hk : k ≤ 4) : 1 ≤ (p : Int) ^ k ∧ (p : Int) ^ k ≤ 2401 := by
  have h1 := pow_pos' hp.bounds.1 k
  have h2 := pow_le hp.bounds.1 hk
  have h3 : (p : Int) ^ 4 ≤ 2401 := by rcases hp with rfl | rfl | rfl | rfl <;> decide
  exact ⟨h1, by omega⟩
theorem P4.npow {p : Nat} (hp : P4 p) {k : Nat} (hk : k ≤ 4) : p ^ k ≤ 2401 := by
  have := (hp.pow3 hk).2
  have e : ((p ^ k : Nat) : Int) = (p : Int) ^ k := by simp
  omega

def ghTo (p : Nat) (x : Nat → Int) (k n : Nat) : Int := sumN n (fun i => (p : Int) ^ i * x i ^ (p ^ (k - i)))
theorem ghTo_all (p : Nat) (x : Nat → Int) (k : Nat) : ghTo p x k (k + 1) = gh p x k := rfl
theorem ghTo_succ (p : Nat) (x : Nat → Int) (k n : Nat) (m : Int) : (ghTo p x k n % m + (p : Int) ^ n % m * (x n ^ (p ^ (k - n)) % m)) % m = ghTo p x k (n + 1) % m := by
  show _ = (ghTo p x k n + (p : Int) ^ n * x n ^ (p ^ (k - n))) % m
  rw [Int.add_emod, Int.emod_emod_of_dvd _ (Int.dvd_refl m), ← Int.mul_emod, ← Int.add_emod]

theorem ghTo_succ' (p : Nat) (x : Nat → Int) (k n : Nat) (m : Int) : (ghTo p x k n % m + (p : Int) ^ n % m * ((x n % m) ^ (p ^ (k - n)) % m)) % m = ghTo p x k (n + 1) % m := by
  rw [pow_mod, ← ghTo_succ]

set_option maxHeartbeats 1000000 in
set_option maxRecDepth 100000 in
theorem l13Ghost_c (p : Nat) (m : Int) (v : Value) (xs : List Int) (n : Int) (k : Nat) (w : World) (hp : P4 p) (hv : RdI w v xs) (hm : 1 ≤ m) (hm' : m ≤ 3000000000) (hn : n = k) (hk : k < xs.length) (hk3 : k ≤ 3) (hx : ∀ x ∈ xs, 0 ≤ x ∧ x ≤ 9000000000000000000) :
    Calls Try.prog 230 #[.int .i64 p, .int .i64 m, v, .int .i64 n] w fun e w' => e = .returned (.int .i64 (gh p (at0 xs) k % m)) ∧ ∃ d, w' = w.drewN d := by
  subst hn
  obtain ⟨o, c, rfl, hmx, hc⟩ := hv
  have hpb := hp.bounds
  go_enter Try.func230, Try.ntmps230
  go_wp2
  go_loopw [9, 10] (fun s i wr => ∃ j : Nat, j ≤ k + 1 ∧ i = .int .i64 j ∧ s = .int .i64 (ghTo p (at0 xs) k j % m) ∧ ∃ d, wr = w.drewN d) (fun _ i _ => k + 1 - (intOf i).toNat)
  case atStart => exact ⟨0, Nat.zero_le _, rfl, by simp [ghTo, sumN], 0, rfl⟩
  case round =>
    obtain ⟨j, hj, rfl, rfl, d, rfl⟩ := hrel
    by_cases hlt : j ≤ k
    · obtain ⟨b, off, rfl, hcell⟩ := hc j (xs[j]'(by omega)) (by simp)
      have hjx : (j : Int) < (xs.length : Int) := by omega
      have hxj := hx (xs[j]'(by omega)) (List.getElem_mem _)
      have hat : at0 xs j = xs[j]'(by omega) := at0_get (by omega)
      have hs := mod_lt' (a := ghTo p (at0 xs) k j) (show 0 < m by omega)
      have hpp := hp.pow3 (show j ≤ 4 by omega)
      have hpq := hp.npow (show k - j ≤ 4 by omega)
      have hpr := hp.pow3 (show k - j ≤ 4 by omega)
      have HN := Lib.hid (ghTo_succ p (at0 xs) k j m)
      rw [hat] at HN
      clear hat
      generalize hS : ghTo p (at0 xs) k j % m = S at *
      go_wp2
      have e1 : ((p : Int) ^ j).tmod m = (p : Int) ^ j % m := Int.tmod_eq_emod_of_nonneg (by omega)
      have e2 : IntKind.i64.wrap ((k : Int) - (j : Int)) = (k : Int) - (j : Int) := IntWalk.i64_in _ (by omega)
      have hA := mod_lt' (a := (p : Int) ^ j) (show 0 < m by omega)
      have hB := mod_lt' (a := (xs[j]'(by omega)) ^ (p ^ (k - j))) (show 0 < m by omega)
      obtain ⟨hP, hP'⟩ := prod_fits hA.1 hB.1 hA.2 hB.2 hm'
      have e3 : IntKind.i64.wrap ((p : Int) ^ j % m * ((xs[j]'(by omega)) ^ (p ^ (k - j)) % m)) = (p : Int) ^ j % m * ((xs[j]'(by omega)) ^ (p ^ (k - j)) % m) := IntWalk.i64_in _ (by omega)
      have e4 : IntKind.i64.wrap (S + (p : Int) ^ j % m * ((xs[j]'(by omega)) ^ (p ^ (k - j)) % m)) = S + (p : Int) ^ j % m * ((xs[j]'(by omega)) ^ (p ^ (k - j)) % m) := IntWalk.i64_in _ (by omega)
      have e5 : (S + (p : Int) ^ j % m * ((xs[j]'(by omega)) ^ (p ^ (k - j)) % m)).tmod m = (S + (p : Int) ^ j % m * ((xs[j]'(by omega)) ^ (p ^ (k - j)) % m)) % m := Int.tmod_eq_emod_of_nonneg (by omega)
      go_quiet ((first | (go_at_call 195; first | (first | exact quietA (rfl) (l13Raise_c _ _ j _ (by omega) (by omega) (by omega) (by omega)) | exact quietB (rfl) (l13Raise_c _ _ j _ (by omega) (by omega) (by omega) (by omega)) | exact quietC (rfl) (l13Raise_c _ _ j _ (by omega) (by omega) (by omega) (by omega)) | exact quietD (rfl) (l13Raise_c _ _ j _ (by omega) (by omega) (by omega) (by omega))) | (first | exact quietA (rfl) (l13Raise_c _ _ (k - j) _ (by omega) (by omega) (by omega) (by omega)) | exact quietB (rfl) (l13Raise_c _ _ (k - j) _ (by omega) (by omega) (by omega) (by omega)) | exact quietC (rfl) (l13Raise_c _ _ (k - j) _ (by omega) (by omega) (by omega) (by omega)) | exact quietD (rfl) (l13Raise_c _ _ (k - j) _ (by omega) (by omega) (by omega) (by omega)))) | (go_at_call 239; (first | exact quietA (rfl) (l13Power_c _ _ _ (p ^ (k - j)) _ (by simp) (by omega) (by omega) (by omega) (by omega) (by omega)) | exact quietB (rfl) (l13Power_c _ _ _ (p ^ (k - j)) _ (by simp) (by omega) (by omega) (by omega) (by omega) (by omega)) | exact quietC (rfl) (l13Power_c _ _ _ (p ^ (k - j)) _ (by simp) (by omega) (by omega) (by omega) (by omega) (by omega)) | exact quietD (rfl) (l13Power_c _ _ _ (p ^ (k - j)) _ (by simp) (by omega) (by omega) (by omega) (by omega) (by omega))))))
      clear e1 e2 e3 e4 e5
      go_wp2
      exact ⟨⟨j + 1, by omega, by go_num, by rw [HN.out], d + nq, rfl⟩, by simp [intOf]; omega⟩
    · obtain rfl : j = k + 1 := by omega
      go_wp2
      go_ret
      exact ⟨by rw [← ghTo_all]; rfl, d, rfl⟩

set_option maxHeartbeats 1000000 in
set_option maxRecDepth 100000 in
theorem ghost_c (p : Nat) (m : Int) (v : Value) (xs : List Int) (n : Int) (k : Nat) (w : World) (hp : P4 p) (hv : RdI w v xs) (hm : 1 ≤ m) (hm' : m ≤ 3000000000) (hn : n = k) (hk : k < xs.length) (hk3 : k ≤ 3) (hx : ∀ x ∈ xs, 0 ≤ x ∧ x ≤ 9000000000000000000) :
    Calls Try.prog 233 #[.int .i64 m, .int .i64 p, v, .int .i64 n] w fun e w' => e = .returned (.int .i64 (gh p (at0 xs) k % m)) ∧ ∃ d, w' = w.drewN d := by
  subst hn
  obtain ⟨o, c, rfl, hmx, hc⟩ := hv
  have hpb := hp.bounds
  go_enter Try.func233, Try.ntmps233
  go_wp2
  go_loopw [9, 10] (fun s i wr => ∃ j : Nat, j ≤ k + 1 ∧ i = .int .i64 j ∧ s = .int .i64 (ghTo p (at0 xs) k j % m) ∧ ∃ d, wr = w.drewN d) (fun _ i _ => k + 1 - (intOf i).toNat)
  case atStart => exact ⟨0, Nat.zero_le _, rfl, by simp [ghTo, sumN], 0, rfl⟩
  case round =>
    obtain ⟨j, hj, rfl, rfl, d, rfl⟩ := hrel
    by_cases hlt : j ≤ k
    · obtain ⟨b, off, rfl, hcell⟩ := hc j (xs[j]'(by omega)) (by simp)
      have hjx : (j : Int) < (xs.length : Int) := by omega
      have hxj := hx (xs[j]'(by omega)) (List.getElem_mem _)
      have hat : at0 xs j = xs[j]'(by omega) := at0_get (by omega)
      have hs := mod_lt' (a := ghTo p (at0 xs) k j) (show 0 < m by omega)
      have hpp := hp.pow3 (show j ≤ 4 by omega)
      have hpq := hp.npow (show k - j ≤ 4 by omega)
      have hpr := hp.pow3 (show k - j ≤ 4 by omega)
      have HN := Lib.hid (ghTo_succ' p (at0 xs) k j m)
      rw [hat] at HN
      clear hat
      generalize hS : ghTo p (at0 xs) k j % m = S at *
      have hX := mod_lt' (a := (xs[j]'(by omega))) (show 0 < m by omega)
      have hA := mod_lt' (a := (p : Int) ^ j) (show 0 < m by omega)
      have hB := mod_lt' (a := ((xs[j]'(by omega)) % m) ^ (p ^ (k - j))) (show 0 < m by omega)
      have hC := mod_lt' (a := (p : Int) ^ j % m * (((xs[j]'(by omega)) % m) ^ (p ^ (k - j)) % m)) (show 0 < m by omega)
      go_wp2
      have e1 : ((p : Int) ^ j).tmod m = (p : Int) ^ j % m := Int.tmod_eq_emod_of_nonneg (by omega)
      have e2 : IntKind.i64.wrap ((k : Int) - (j : Int)) = (k : Int) - (j : Int) := IntWalk.i64_in _ (by omega)
      have e3 : (xs[j]'(by omega)).tmod m = (xs[j]'(by omega)) % m := Int.tmod_eq_emod_of_nonneg (by omega)
      have e4 : IntKind.i64.wrap (S + (p : Int) ^ j % m * (((xs[j]'(by omega)) % m) ^ (p ^ (k - j)) % m) % m) = S + (p : Int) ^ j % m * (((xs[j]'(by omega)) % m) ^ (p ^ (k - j)) % m) % m := IntWalk.i64_in _ (by omega)
      have e5 : (S + (p : Int) ^ j % m * (((xs[j]'(by omega)) % m) ^ (p ^ (k - j)) % m) % m).tmod m = (S + (p : Int) ^ j % m * (((xs[j]'(by omega)) % m) ^ (p ^ (k - j)) % m) % m) % m := Int.tmod_eq_emod_of_nonneg (by omega)
      go_quiet ((first | (go_at_call 193; first | (first | exact quietA (rfl) (scale_c _ _ j _ (by omega) (by omega) (by omega) (by omega)) | exact quietB (rfl) (scale_c _ _ j _ (by omega) (by omega) (by omega) (by omega)) | exact quietC (rfl) (scale_c _ _ j _ (by omega) (by omega) (by omega) (by omega)) | exact quietD (rfl) (scale_c _ _ j _ (by omega) (by omega) (by omega) (by omega))) | (first | exact quietA (rfl) (scale_c _ _ (k - j) _ (by omega) (by omega) (by omega) (by omega)) | exact quietB (rfl) (scale_c _ _ (k - j) _ (by omega) (by omega) (by omega) (by omega)) | exact quietC (rfl) (scale_c _ _ (k - j) _ (by omega) (by omega) (by omega) (by omega)) | exact quietD (rfl) (scale_c _ _ (k - j) _ (by omega) (by omega) (by omega) (by omega)))) | (go_at_call 197; (first | exact quietA (rfl) (power_c _ _ _ (p ^ (k - j)) _ (by simp) (by omega) (by omega) (by omega) (by omega) (by omega)) | exact quietB (rfl) (power_c _ _ _ (p ^ (k - j)) _ (by simp) (by omega) (by omega) (by omega) (by omega) (by omega)) | exact quietC (rfl) (power_c _ _ _ (p ^ (k - j)) _ (by simp) (by omega) (by omega) (by omega) (by omega) (by omega)) | exact quietD (rfl) (power_c _ _ _ (p ^ (k - j)) _ (by simp) (by omega) (by omega) (by omega) (by omega) (by omega)))) | (go_at_call 173; (first | exact quietA (rfl) (mul_c _ _ _ _ (by omega) (by omega) (by omega) (by omega) (by omega) (by omega)) | exact quietB (rfl) (mul_c _ _ _ _ (by omega) (by omega) (by omega) (by omega) (by omega) (by omega)) | exact quietC (rfl) (mul_c _ _ _ _ (by omega) (by omega) (by omega) (by omega) (by omega) (by omega)) | exact quietD (rfl) (mul_c _ _ _ _ (by omega) (by omega) (by omega) (by omega) (by omega) (by omega))))))
      clear e1 e2 e3 e4 e5
      go_wp2
      exact ⟨⟨j + 1, by omega, by go_num, by rw [HN.out], d + nq, rfl⟩, by simp [intOf]; omega⟩
    · obtain rfl : j = k + 1 := by omega
      go_wp2
      go_ret
      exact ⟨by rw [← ghTo_all]; rfl, d, rfl⟩

end Go.Proofs.Ytcjinlfgeljmkaa
