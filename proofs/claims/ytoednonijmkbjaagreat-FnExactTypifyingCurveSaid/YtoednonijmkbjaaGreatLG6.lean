/- Lemmas. -/
import Derived.Test.YtoednonijmkbjaaGreatLG3
import Derived.Lib.Strings
import Derived.Lib.Slices
import Derived.Lib.Small
import Derived.Lib.Walk
import Derived.Lib.BitFns
import Derived.Lib.Mul64
import Derived.Laws.Bits64b
/- Products of 128 bits, and how many bits a number has: the library's functions. -/
set_option linter.unusedSimpArgs false
set_option linter.unusedVariables false
namespace Go.Proofs.YtoednonijmkbjaaGreat
open Go.RowKit

theorem w_mask (a : Nat) (ha : a < 18446744073709551616) : Go.bits .and .u64 (a : Int) 4294967295 = ((a % 4294967296 : Nat) : Int) := by
  have h := Go.bits_and_u64_nat a 4294967295 ha (by omega)
  have e : a &&& 4294967295 = a % 4294967296 := Nat.and_two_pow_sub_one_eq_mod a 32
  rw [e] at h
  exact h
theorem w_div (a : Nat) : (a : Int) / 4294967296 = ((a / 4294967296 : Nat) : Int) := by omega
theorem w_mul (a b : Nat) : (a : Int) * (b : Int) = ((a * b : Nat) : Int) := (Int.natCast_mul a b).symm
theorem w_add (a b : Nat) : (a : Int) + (b : Int) = ((a + b : Nat) : Int) := (Int.natCast_add a b).symm
theorem w_wrap (a : Nat) (ha : a < 18446744073709551616) : IntKind.u64.wrap (a : Int) = (a : Int) := by rw [IntKind.wrap_u64]; omega
theorem w_wrapM (a : Nat) : IntKind.u64.wrap (a : Int) = ((a % 18446744073709551616 : Nat) : Int) := by rw [IntKind.wrap_u64]; omega

set_option maxHeartbeats 1000000 in
theorem Mul64_c (x y : Nat) (hx : x < 18446744073709551616) (hy : y < 18446744073709551616) (w : World) :
    Calls Tryz.prog 127 #[.int .u64 x, .int .u64 y] w fun e w' => e = .returned (.tuple #[.int .u64 ((x * y / 18446744073709551616 : Nat) : Int), .int .u64 ((x * y % 18446744073709551616 : Nat) : Int)]) ∧ w = w' := by
  obtain ⟨bd, bt, bw, hhi⟩ := Go.Lib.mul64_hi x y hx hy
  have ba := Go.Lib.half_mul_le (a := x / 4294967296) (b := y / 4294967296) (by omega) (by omega)
  have bb := Go.Lib.half_mul_le (a := x / 4294967296) (b := y % 4294967296) (by omega) (by omega)
  have bc := Go.Lib.half_mul_le (a := x % 4294967296) (b := y / 4294967296) (by omega) (by omega)
  have ba' : x / 4294967296 * (y / 4294967296) < 18446744073709551616 := by omega
  have bb' : x / 4294967296 * (y % 4294967296) < 18446744073709551616 := by omega
  have bc' : x % 4294967296 * (y / 4294967296) < 18446744073709551616 := by omega
  have bh1 : x / 4294967296 * (y / 4294967296) + (x / 4294967296 * (y % 4294967296) + x % 4294967296 * (y % 4294967296) / 4294967296) / 4294967296 < 18446744073709551616 := by omega
  have bh : x / 4294967296 * (y / 4294967296) + (x / 4294967296 * (y % 4294967296) + x % 4294967296 * (y % 4294967296) / 4294967296) / 4294967296 + ((x / 4294967296 * (y % 4294967296) + x % 4294967296 * (y % 4294967296) / 4294967296) % 4294967296 + x % 4294967296 * (y / 4294967296)) / 4294967296 < 18446744073709551616 := by omega
  go_enter Tryz.func127, Tryz.ntmps127
  go_wp2
  simp only [w_mask x hx, w_mask y hy, w_div, w_mul, w_add, w_wrap _ bd, w_wrap _ bb', w_wrap _ bt, w_mask _ bt, w_wrap _ bc', w_wrap _ bw, w_wrap _ ba', w_wrap _ bh1, w_wrap _ bh, w_wrapM (x * y)]
  rw [hhi]
  go_ret2
  exact ⟨rfl, rfl⟩

theorem len8_bound : ∀ b : Fin 256, 1 ≤ b.val → ∃ k : Nat, Go.Lib.len8 (b.val : Int) = (k : Int) ∧ 1 ≤ k ∧ k ≤ 8 ∧ 2 ^ (k - 1) ≤ b.val ∧ b.val < 2 ^ k := by
  intro b hb
  have h : ∀ b : Fin 256, 1 ≤ b.val → (Go.Lib.len8 (b.val : Int) = ((Go.Lib.len8 (b.val : Int)).toNat : Int) ∧ 1 ≤ (Go.Lib.len8 (b.val : Int)).toNat ∧ (Go.Lib.len8 (b.val : Int)).toNat ≤ 8 ∧ 2 ^ ((Go.Lib.len8 (b.val : Int)).toNat - 1) ≤ b.val ∧ b.val < 2 ^ (Go.Lib.len8 (b.val : Int)).toNat) := by decide +kernel
  exact ⟨_, h b hb⟩
theorem len8_bnd (q : Int) (h1 : 1 ≤ q) (h2 : q < 256) : ∃ k : Nat, Go.Lib.len8 q = (k : Int) ∧ 1 ≤ k ∧ k ≤ 8 ∧ (2 : Int) ^ (k - 1) ≤ q ∧ q < (2 : Int) ^ k := by
  obtain ⟨b, rfl⟩ : ∃ b : Nat, q = b := ⟨q.toNat, by omega⟩
  obtain ⟨k, a, b1, c, d, e⟩ := len8_bound ⟨b, by omega⟩ (by show 1 ≤ b; omega)
  refine ⟨k, a, b1, c, ?_, ?_⟩
  · have : ((2 ^ (k - 1) : Nat) : Int) ≤ (b : Int) := Int.ofNat_le.2 d
    simpa using this
  · have : (b : Int) < ((2 ^ k : Nat) : Int) := Int.ofNat_lt.2 e
    simpa using this
theorem len8_at (y : Int) (h : y.toNat < Go.Lib.len8tab.size) : ((Go.Lib.len8tab[y.toNat]'h).toNat : Int) = Go.Lib.len8 y := by
  unfold Go.Lib.len8
  rw [getElem?_pos Go.Lib.len8tab y.toNat h]
  rfl

set_option maxHeartbeats 4000000 in
set_option maxRecDepth 100000 in
theorem Len64_c (x : Int) (w : World) (h0 : 2147483648 ≤ x) (h1 : x < 1099511627776) :
    Calls Tryz.prog 153 #[.int .u64 x] w fun e w' => ∃ k : Nat, e = .returned (.int .i64 k) ∧ w = w' ∧ 32 ≤ k ∧ k ≤ 40 ∧ (2 : Int) ^ (k - 1) ≤ x ∧ x < (2 : Int) ^ k := by
  by_cases hx : 4294967296 ≤ x
  · obtain ⟨q, hq⟩ : ∃ q, q = x / 4294967296 := ⟨_, rfl⟩
    have hq1 : 1 ≤ q := by omega
    have hq2 : q < 256 := by omega
    have a1 : ¬ 65536 ≤ q := by omega
    have a2 : ¬ 256 ≤ q := by omega
    have a3 : 0 ≤ q := by omega
    have a4 : q < (Go.Lib.len8tab.size : Int) := by rw [Go.Lib.len8tab_size]; omega
    obtain ⟨k, hk, k1, k2, k3, k4⟩ := len8_bnd q hq1 hq2
    have e1 := hq.symm
    have K := Lib.hid (show (2 : Int) ^ (32 + k - 1) ≤ x ∧ x < (2 : Int) ^ (32 + k) by
      rw [show 32 + k - 1 = (k - 1) + 32 by omega, Nat.add_comm 32 k, Int.pow_add, Int.pow_add]
      have : (2 : Int) ^ 32 = 4294967296 := by decide
      omega)
    have hk2 := Lib.hid k2
    have hk1 := Lib.hid k1
    clear k1 k2 k3 k4 h0 h1 hq1 hq2 hq
    go_enter Tryz.func153, Tryz.ntmps153
    go_wp2
    go_ret
    refine ⟨32 + k, congrArg Ending.returned (congrArg (Value.int IntKind.i64) ?_), rfl, by have := hk1.out; omega, by have := hk2.out; omega, K.out.1, K.out.2⟩
    rw [len8_at, hk]
    have := hk2.out
    unfold Go.RowKit.wrap64
    omega
  · obtain ⟨q1, hq1⟩ : ∃ q, q = x / 65536 := ⟨_, rfl⟩
    obtain ⟨q, hq⟩ : ∃ q, q = q1 / 256 := ⟨_, rfl⟩
    have b1 : 65536 ≤ x := by omega
    have b2 : 256 ≤ q1 := by omega
    have hq1' : 1 ≤ q := by omega
    have hq2 : q < 256 := by omega
    have a3 : 0 ≤ q := by omega
    have a4 : q < (Go.Lib.len8tab.size : Int) := by rw [Go.Lib.len8tab_size]; omega
    obtain ⟨k, hk, k1, k2, k3, k4⟩ := len8_bnd q hq1' hq2
    have k8 : k = 8 := by
      have : k = 1 ∨ k = 2 ∨ k = 3 ∨ k = 4 ∨ k = 5 ∨ k = 6 ∨ k = 7 ∨ k = 8 := by omega
      rcases this with h | h | h | h | h | h | h | h
      all_goals (subst h; first | rfl | (exfalso; simp at k4; omega))
    subst k8
    have e1 := hq1.symm
    have e2 := hq.symm
    have K := Lib.hid (show (2147483648 : Int) ≤ x ∧ x < 4294967296 by omega)
    clear k1 k2 k3 k4 h0 h1 hq1' hq2 hq hq1
    go_enter Tryz.func153, Tryz.ntmps153
    go_wp2
    go_ret
    refine ⟨32, congrArg Ending.returned (congrArg (Value.int IntKind.i64) ?_), rfl, by omega, by omega, by have := K.out.1; simpa using this, by have := K.out.2; simpa using this⟩
    rw [len8_at, hk]
    unfold Go.RowKit.wrap64; omega

set_option maxHeartbeats 1000000 in
theorem LeadingZeros64_c (x : Int) (w : World) (h0 : 2147483648 ≤ x) (h1 : x < 1099511627776) :
    Calls Tryz.prog 146 #[.int .u64 x] w fun e w' => ∃ k : Nat, e = .returned (.int .i64 (64 - (k : Int))) ∧ w = w' ∧ 32 ≤ k ∧ k ≤ 40 ∧ (2 : Int) ^ (k - 1) ≤ x ∧ x < (2 : Int) ^ k := by
  go_enter Tryz.func146, Tryz.ntmps146
  go_wp2_with fail
  refine (Len64_c x _ h0 h1).mono ?_
  rintro e w' ⟨k, rfl, rfl, k1, k2, k3⟩
  have e1 : IntKind.i64.wrap (64 - (k : Int)) = 64 - (k : Int) := IntWalk.i64_in _ (by omega)
  have K3 := Lib.hid k3
  have K1 := Lib.hid k1
  have K2 := Lib.hid k2
  clear k1 k2 k3
  go_wp2
  go_ret
  exact ⟨k, rfl, rfl, K1.out, K2.out, K3.out⟩
end Go.Proofs.YtoednonijmkbjaaGreat

/- Quotients of 128 bits: the library's function. -/
set_option linter.unusedSimpArgs false
set_option linter.unusedVariables false
namespace Go.Proofs.YtoednonijmkbjaaGreat
open Go.RowKit

theorem kn_lt {y1 y0 u v : Nat} (hv : v < 4294967296) (hu : u < y1 * 4294967296 + y0) : (u * 4294967296 + v) / (y1 * 4294967296 + y0) < 4294967296 := by
  refine (Nat.div_lt_iff_lt_mul (by omega)).2 ?_
  have : (u + 1) * 4294967296 ≤ (y1 * 4294967296 + y0) * 4294967296 := Nat.mul_le_mul_right _ hu
  omega
theorem kn_start {y1 y0 u v : Nat} (h1 : 0 < y1) (hv : v < 4294967296) : (u * 4294967296 + v) / (y1 * 4294967296 + y0) ≤ u / y1 := by
  refine (Nat.le_div_iff_mul_le h1).2 ?_
  have h := Nat.div_mul_le_self (u * 4294967296 + v) (y1 * 4294967296 + y0)
  generalize (u * 4294967296 + v) / (y1 * 4294967296 + y0) = q at h
  have e : q * (y1 * 4294967296 + y0) = q * y1 * 4294967296 + q * y0 := by rw [Nat.mul_add, Nat.mul_assoc]
  rw [e] at h
  generalize q * y1 = a at h ⊢
  generalize q * y0 = b at h
  omega
theorem kn_step {y1 y0 u v q r : Nat} (hy : 0 < y1) (hv : v < 4294967296) (hu : u < y1 * 4294967296 + y0) (he : u = q * y1 + r) (hc : 4294967296 ≤ q ∨ 4294967296 * r + v < q * y0) : (u * 4294967296 + v) / (y1 * 4294967296 + y0) < q := by
  rcases hc with h | h
  · exact Nat.lt_of_lt_of_le (kn_lt hv hu) h
  · refine (Nat.div_lt_iff_lt_mul (by omega)).2 ?_
    have e : q * (y1 * 4294967296 + y0) = q * y1 * 4294967296 + q * y0 := by rw [Nat.mul_add, Nat.mul_assoc]
    rw [e]
    generalize q * y1 = a at he ⊢
    generalize q * y0 = b at h ⊢
    omega
theorem kn_end {y1 y0 u v q r : Nat} (hy : 0 < y1) (he : u = q * y1 + r) (hq : (u * 4294967296 + v) / (y1 * 4294967296 + y0) ≤ q) (hc : q * y0 ≤ 4294967296 * r + v) : q = (u * 4294967296 + v) / (y1 * 4294967296 + y0) := by
  refine Nat.le_antisymm ((Nat.le_div_iff_mul_le (by omega)).2 ?_) hq
  have e : q * (y1 * 4294967296 + y0) = q * y1 * 4294967296 + q * y0 := by rw [Nat.mul_add, Nat.mul_assoc]
  rw [e]
  generalize q * y1 = a at he ⊢
  generalize q * y0 = b at hc ⊢
  omega
theorem kn_break {y1 y0 u v q r : Nat} (hy : 0 < y1) (h0 : y0 < 4294967296) (hu : u < y1 * 4294967296 + y0) (he : u = q * y1 + r) (hq : (u * 4294967296 + v) / (y1 * 4294967296 + y0) ≤ q) (hr : 4294967296 ≤ r) : q = (u * 4294967296 + v) / (y1 * 4294967296 + y0) := by
  refine kn_end hy he hq ?_
  have hqB : q < 4294967296 := by
    have : q * y1 < 4294967296 * y1 := by
      generalize q * y1 = a at he
      omega
    exact Nat.lt_of_mul_lt_mul_right this
  have : q * y0 ≤ 4294967296 * 4294967296 := Nat.mul_le_mul (by omega) (by omega)
  omega
theorem kn_rem {u v y q : Nat} (hy : 0 < y) (h : q = (u * 4294967296 + v) / y) : ((u * 4294967296 + v : Nat) : Int) - ((q * y : Nat) : Int) = (((u * 4294967296 + v) % y : Nat) : Int) := by
  have := Nat.div_add_mod (u * 4294967296 + v) y
  rw [h, Nat.mul_comm ((u * 4294967296 + v) / y) y]
  omega
theorem kn_twoB (B U l1 l0 Y : Nat) : ((U * B + l1) % Y * B + l0) % Y = (U * (B * B) + (l1 * B + l0)) % Y := by
  have h := Nat.div_add_mod (U * B + l1) Y
  have e : U * (B * B) + (l1 * B + l0) = Y * ((U * B + l1) / Y * B) + ((U * B + l1) % Y * B + l0) := by
    rw [← Nat.mul_assoc Y, ← Nat.add_assoc (Y * _ * B), ← Nat.add_mul, h, Nat.add_mul, Nat.mul_assoc, Nat.add_assoc]
  rw [e, Nat.mul_add_mod]
theorem kn_two (U l1 l0 Y : Nat) : ((U * 4294967296 + l1) % Y * 4294967296 + l0) % Y = (U * 18446744073709551616 + (l1 * 4294967296 + l0)) % Y := kn_twoB 4294967296 U l1 l0 Y
theorem kn_shift {hi lo y k s : Nat} (hs : k + s = 64) (h1 : lo < 18446744073709551616) (hh : hi < y) (hy : y < 2 ^ k) :
    ∃ U L, hi * 2 ^ s < 18446744073709551616 ∧ (hi * 2 ^ s) ||| (lo / 2 ^ k) = U ∧ U < 18446744073709551616 ∧ U < y * 2 ^ s ∧ lo * 2 ^ s % 18446744073709551616 = L ∧ (hi * 18446744073709551616 + lo) * 2 ^ s = U * 18446744073709551616 + L := by
  have e64 : 2 ^ k * 2 ^ s = 18446744073709551616 := by rw [← Nat.pow_add, hs]
  have hS : 0 < 2 ^ s := Nat.two_pow_pos s
  have hK : 0 < 2 ^ k := Nat.two_pow_pos k
  have hlk : lo / 2 ^ k < 2 ^ s := by
    refine (Nat.div_lt_iff_lt_mul hK).2 ?_
    rw [Nat.mul_comm, e64]; exact h1
  have hor : (hi * 2 ^ s) ||| (lo / 2 ^ k) = hi * 2 ^ s + lo / 2 ^ k := by
    rw [Nat.mul_comm hi, Nat.two_pow_add_eq_or_of_lt hlk]
  have hU : hi * 2 ^ s + lo / 2 ^ k < y * 2 ^ s := by
    have : (hi + 1) * 2 ^ s ≤ y * 2 ^ s := Nat.mul_le_mul_right _ hh
    rw [Nat.add_mul] at this
    omega
  have hY : y * 2 ^ s < 18446744073709551616 := by rw [← e64]; exact (Nat.mul_lt_mul_right hS).2 hy
  have hlo : lo * 2 ^ s = (lo / 2 ^ k) * 18446744073709551616 + lo % 2 ^ k * 2 ^ s := by
    conv => lhs; rw [← Nat.div_add_mod' lo (2 ^ k), Nat.add_mul, Nat.mul_assoc, e64]
  have hm : lo % 2 ^ k * 2 ^ s < 18446744073709551616 := by
    rw [← e64]; exact (Nat.mul_lt_mul_right hS).2 (Nat.mod_lt _ hK)
  refine ⟨_, _, by omega, rfl, by rw [hor]; omega, by rw [hor]; exact hU, rfl, ?_⟩
  rw [hor, hlo, Nat.add_mul, Nat.add_mul, show hi * 18446744073709551616 * 2 ^ s = hi * 2 ^ s * 18446744073709551616 by rw [Nat.mul_assoc, Nat.mul_comm 18446744073709551616, ← Nat.mul_assoc], hlo]
  omega

set_option maxHeartbeats 1000000 in
theorem Div64_0 (lo y : Nat) (h1 : lo < 18446744073709551616) (h2 : y < 18446744073709551616) (hy : 0 < y) (w : World) :
    Calls Tryz.prog 128 #[.int .u64 0, .int .u64 lo, .int .u64 y] w fun e w' => (∃ q : Int, e = .returned (.tuple #[.int .u64 q, .int .u64 ((lo % y : Nat) : Int)])) ∧ ∃ d, w' = w.drewN d := by
  have y0 : ((y : Int) == 0) = false := by simp; omega
  have y1 : ¬ (y : Int) = 0 := by omega
  have y2 : ¬ (y : Int) ≤ 0 := by omega
  have y3 : ¬ y = 0 := by omega
  go_enter Tryz.func128, Tryz.ntmps128
  go_wp2
  go_quiet (fail)
  go_wp2
  go_ret2
  refine ⟨⟨_, congrArg Ending.returned (by rw [← Int.natCast_emod]; rfl)⟩, _, rfl⟩
set_option maxHeartbeats 8000000 in
set_option maxRecDepth 100000 in
theorem Div64_c (hi lo y : Nat) (h1 : lo < 18446744073709551616) (h2 : 2147483648 ≤ y) (h3 : y < 1099511627776) (hh : hi < y) (h0 : 0 < hi) (w : World) :
    Calls Tryz.prog 128 #[.int .u64 hi, .int .u64 lo, .int .u64 y] w fun e w' => (∃ q : Int, e = .returned (.tuple #[.int .u64 q, .int .u64 (((hi * 18446744073709551616 + lo) % y : Nat) : Int)])) ∧ ∃ d, w' = w.drewN d := by
  have y0 : ((y : Int) == 0) = false := by simp; omega
  have y1 : ¬ (y : Int) = 0 := by omega
  have y2 : ¬ (y : Int) ≤ (hi : Int) := by omega
  have y4 : ((hi : Int) == 0) = false := by simp; omega
  have y5 : ¬ (hi : Int) = 0 := by omega
  have y3 : ¬ y = 0 := by omega
  go_enter Tryz.func128, Tryz.ntmps128
  go_wp2_with fail
  refine (LeadingZeros64_c y _ (by omega) (by omega)).mono ?_
  rintro e w' ⟨k, rfl, rfl, k1, k2, k3⟩
  have K3 := Lib.hid k3
  have K1 := Lib.hid k1
  have K2 := Lib.hid k2
  obtain ⟨s, hs⟩ : ∃ s, k + s = 64 := ⟨64 - k, by omega⟩
  have k2' : y < 2 ^ k := by
    have : (y : Int) < ((2 ^ k : Nat) : Int) := by simpa using k3.2
    omega
  have k1' : 2 ^ (k - 1) ≤ y := by
    have : ((2 ^ (k - 1) : Nat) : Int) ≤ (y : Int) := by simpa using k3.1
    omega
  obtain ⟨U, L, u1, u2, u3, u4, u5, u6⟩ := kn_shift hs h1 hh k2'
  obtain ⟨Y, hY⟩ : ∃ Y, Y = y * 2 ^ s := ⟨_, rfl⟩
  have e64 : 2 ^ k * 2 ^ s = 18446744073709551616 := by rw [← Nat.pow_add, hs]
  have Y1 : Y < 18446744073709551616 := by rw [hY, ← e64]; exact (Nat.mul_lt_mul_right (Nat.two_pow_pos s)).2 k2'
  have Y2 : 9223372036854775808 ≤ Y := by
    have : 2 ^ (k - 1) * 2 ^ s ≤ y * 2 ^ s := Nat.mul_le_mul_right _ k1'
    rw [← Nat.pow_add, show k - 1 + s = 63 by omega, ← hY] at this
    omega
  rw [← hY] at u4
  have HR := Lib.hid (show ((U * 18446744073709551616 + L) % Y) / 2 ^ s = (hi * 18446744073709551616 + lo) % y by
    rw [← u6, hY, Nat.mul_mod_mul_right, Nat.mul_div_cancel _ (Nat.two_pow_pos s)])
  have eY : IntKind.u64.wrap ((y : Int) * 2 ^ s) = (Y : Int) := by
    rw [show ((y : Int) * 2 ^ s) = ((Y : Nat) : Int) by rw [hY]; simp]; exact w_wrap _ Y1
  obtain ⟨H, hH⟩ : ∃ H, H = hi * 2 ^ s := ⟨_, rfl⟩
  obtain ⟨K, hK⟩ : ∃ K, K = lo / 2 ^ k := ⟨_, rfl⟩
  rw [← hH] at u1
  rw [← hH, ← hK] at u2
  have eH : IntKind.u64.wrap ((hi : Int) * 2 ^ s) = (H : Int) := by
    rw [show ((hi : Int) * 2 ^ s) = ((H : Nat) : Int) by rw [hH]; simp]; exact w_wrap _ u1
  have eU : Go.bits .or .u64 (H : Int) (K : Int) = (U : Int) := by
    rw [Go.bits_or_u64_nat _ _ u1 (by rw [hK]; exact Nat.lt_of_le_of_lt (Nat.div_le_self _ _) h1), u2]
  have eK : (lo : Int) / 2 ^ k = (K : Int) := by rw [hK]; simp
  have eL : IntKind.u64.wrap ((lo : Int) * 2 ^ s) = (L : Int) := by
    rw [show ((lo : Int) * 2 ^ s) = ((lo * 2 ^ s : Nat) : Int) by simp, w_wrapM, u5]
  have hLl : L < 18446744073709551616 := by rw [← u5]; exact Nat.mod_lt _ (by decide)
  obtain ⟨a1, ha1⟩ : ∃ a, a = Y / 4294967296 := ⟨_, rfl⟩
  obtain ⟨a0, ha0⟩ : ∃ a, a = Y % 4294967296 := ⟨_, rfl⟩
  obtain ⟨l1, hl1⟩ : ∃ a, a = L / 4294967296 := ⟨_, rfl⟩
  obtain ⟨l0, hl0⟩ : ∃ a, a = L % 4294967296 := ⟨_, rfl⟩
  have eY1 : (Y : Int) / 4294967296 = (a1 : Int) := by omega
  have eY0 : Go.bits .and .u64 (Y : Int) 4294967295 = (a0 : Int) := by rw [w_mask Y Y1, ha0]
  have eL1 : (L : Int) / 4294967296 = (l1 : Int) := by omega
  have eL0 : Go.bits .and .u64 (L : Int) 4294967295 = (l0 : Int) := by rw [w_mask L hLl, hl0]
  have hYe : Y = a1 * 4294967296 + a0 := by omega
  have hLe : L = l1 * 4294967296 + l0 := by omega
  have p1 : 2147483648 ≤ a1 := by omega
  have p2 : a1 < 4294967296 := by omega
  have p3 : a0 < 4294967296 := by omega
  have p4 : l1 < 4294967296 := by omega
  have p5 : l0 < 4294967296 := by omega
  have z1 : ((a1 : Int) == 0) = false := by simp; omega
  have z2 : ¬ (a1 : Int) = 0 := by omega
  have z3 : ¬ a1 = 0 := by omega
  obtain ⟨q, hq⟩ : ∃ q, q = U / a1 := ⟨_, rfl⟩
  obtain ⟨r, hr⟩ : ∃ r, r = U % a1 := ⟨_, rfl⟩
  have hUe : U = q * a1 + r := by rw [hq, hr, Nat.mul_comm]; exact (Nat.div_add_mod U a1).symm
  have hrl : r < a1 := by rw [hr]; exact Nat.mod_lt _ (by omega)
  have hql : q < 17179869184 := by
    rw [hq]; exact (Nat.div_lt_iff_lt_mul (by omega)).2 (by omega)
  have eq0 : (U : Int) / (a1 : Int) = (q : Int) := by rw [hq]; simp
  have eqw : IntKind.u64.wrap (q : Int) = (q : Int) := w_wrap q (by omega)
  have hqa : q * a1 ≤ U := by omega
  obtain ⟨qa, hqa'⟩ : ∃ x, x = q * a1 := ⟨_, rfl⟩
  have eqm : IntKind.u64.wrap ((q : Int) * (a1 : Int)) = (qa : Int) := by rw [w_mul, hqa']; exact w_wrap _ (by omega)
  have er : IntKind.u64.wrap ((U : Int) - (qa : Int)) = (r : Int) := by
    rw [show (U : Int) - (qa : Int) = (r : Int) by omega]; exact w_wrap _ (by omega)
  have es : (64 : Int) - (k : Int) = (s : Int) := by omega
  have es2 : (64 : Int) - (s : Int) = (k : Int) := by omega
  have es3 : IntKind.u64.wrap (s : Int) = (s : Int) := w_wrap _ (by omega)
  have es4 : IntKind.u64.wrap (k : Int) = (k : Int) := w_wrap _ (by omega)
  have i1 : (s : Int) < 64 := by omega
  have i2 : (k : Int) < 64 := by omega
  have i3 : ¬ (64 : Int) ≤ (s : Int) := by omega
  have i4 : ¬ (64 : Int) ≤ (k : Int) := by omega
  have hT := kn_start (y1 := a1) (y0 := a0) (u := U) (v := l1) (by omega) p4
  rw [← hq] at hT
  have HT := Lib.hid hT
  have HQ := Lib.hid hql
  have HUe := Lib.hid hUe
  have HYe := Lib.hid hYe
  have HLe := Lib.hid hLe
  have HU4 := Lib.hid u4
  have HU3 := Lib.hid u3
  have HY1 := Lib.hid Y1
  have HRL := Lib.hid hrl
  clear hH hK hqa' k1 k2 k3 k2' k1' u1 u2 u3 u4 u5 u6 hY e64 Y1 Y2 hLl ha1 ha0 hl1 hl0 hYe hLe hq hr hUe hrl hql hqa hT h0 h1 h2 h3 hh
  have HT1 := Lib.hid (show (U * 4294967296 + l1) / Y ≤ q by have := HT.out; rwa [← HYe.out] at this)
  have HT1 := Lib.hid (show (U * 4294967296 + l1) / Y ≤ q by have := HT.out; rwa [← HYe.out] at this)
  have HT1 := Lib.hid (show (U * 4294967296 + l1) / Y ≤ q by have := HT.out; rwa [← HYe.out] at this)
  have HT1 := Lib.hid (show (U * 4294967296 + l1) / Y ≤ q by have := HT.out; rwa [← HYe.out] at this)
  have HT1 := Lib.hid (show (U * 4294967296 + l1) / Y ≤ q by have := HT.out; rwa [← HYe.out] at this)
  have HT1 := Lib.hid (show (U * 4294967296 + l1) / Y ≤ q by have := HT.out; rwa [← HYe.out] at this)
  have HT1 := Lib.hid (show (U * 4294967296 + l1) / Y ≤ q by have := HT.out; rwa [← HYe.out] at this)
  have HT1 := Lib.hid (show (U * 4294967296 + l1) / Y ≤ q by have := HT.out; rwa [← HYe.out] at this)
  go_wp2_with fail
  go_loopw [15, 16] (fun sq sr wr => ∃ q r : Nat, sq = .int .u64 (q : Int) ∧ sr = .int .u64 (r : Int) ∧ q < 17179869184 ∧ r < 4294967296 ∧ Hid (U = q * a1 + r ∧ (U * 4294967296 + l1) / Y ≤ q) ∧ w = wr) (fun i _ _ => (intOf i).toNat)
  case atStart => exact ⟨q, r, rfl, rfl, HQ.out, Nat.lt_trans HRL.out p2, Lib.hid ⟨HUe.out, HT1.out⟩, rfl⟩
  case round =>
    obtain ⟨q, r, rfl, rfl, hq, hr, HI, rfl⟩ := hrel
    have hI := HI.out
    have hyp := HYe.out
    obtain ⟨qb, hqb⟩ : ∃ x, x = q * a0 := ⟨_, rfl⟩
    have c0 : q < 4294967296 → IntKind.u64.wrap ((q : Int) * (a0 : Int)) = (qb : Int) := fun h => by rw [w_mul, ← hqb]; exact w_wrap _ (by rw [hqb]; exact Nat.lt_of_le_of_lt (Nat.mul_le_mul (show q ≤ 4294967295 by omega) (show a0 ≤ 4294967295 by omega)) (by decide))
    obtain ⟨rb, hrb⟩ : ∃ x, x = 4294967296 * r := ⟨_, rfl⟩
    have c1 : IntKind.u64.wrap (4294967296 * (r : Int)) = (rb : Int) := by rw [show 4294967296 * (r : Int) = (rb : Int) by omega]; exact w_wrap _ (by omega)
    obtain ⟨rv, hrv⟩ : ∃ x, x = rb + l1 := ⟨_, rfl⟩
    have c2 : IntKind.u64.wrap ((rb : Int) + (l1 : Int)) = (rv : Int) := by rw [show (rb : Int) + (l1 : Int) = (rv : Int) by omega]; exact w_wrap _ (by omega)
    obtain ⟨r', hr'⟩ : ∃ x, x = r + a1 := ⟨_, rfl⟩
    have d2 : IntKind.u64.wrap ((r : Int) + (a1 : Int)) = (r' : Int) := by rw [show (r : Int) + (a1 : Int) = (r' : Int) by omega]; exact w_wrap _ (by omega)
    have hu : U < a1 * 4294967296 + a0 := by rw [← hyp]; exact HU4.out
    have hpos : 0 < a1 := by omega
    by_cases hc : 4294967296 ≤ q ∨ rv < qb
    · have hst := kn_step hpos p4 hu hI.1 (by rcases hc with h | h; exact .inl h; exact .inr (by rw [← hqb, ← hrb, ← hrv]; exact h))
      rw [← hyp] at hst
      have hq1 : 1 ≤ q := Nat.lt_of_le_of_lt (Nat.zero_le _) hst
      obtain ⟨q', rfl⟩ : ∃ q', q = q' + 1 := ⟨q - 1, by omega⟩
      have d1' : IntKind.u64.wrap (((q' + 1 : Nat) : Int) - 1) = (q' : Int) := by rw [show ((q' + 1 : Nat) : Int) - 1 = (q' : Int) by omega]; exact w_wrap _ (by omega)
      have hI2 : U = q' * a1 + r' := by have h := hI.1; rw [Nat.add_mul, Nat.one_mul] at h; omega
      obtain ⟨qn, hqn⟩ : ∃ x, x = q' + 1 := ⟨_, rfl⟩
      rw [← hqn] at d1' c0 hc
      have HI2 := Lib.hid hI2
      have HST := Lib.hid (show (U * 4294967296 + l1) / Y ≤ q' from Nat.le_of_lt_succ hst)
      have HQ' := Lib.hid (show q' < 17179869184 by omega)
      have HQN := Lib.hid hqn
      rw [← hqn]
      have HQb := Lib.hid (show qb ≤ 18446744073709551615 → True from fun _ => trivial)
      clear hI HI hst hI2 hr' hrb hrv hqb hu hq hr hqn
      by_cases hb : 4294967296 ≤ r'
      · have hbr := kn_break (v := l1) hpos p3 (by rw [← hyp]; exact HU4.out) HI2.out (by rw [← hyp]; exact HST.out) hb
        rw [← hyp] at hbr
        have HB := Lib.hid hbr
        have b1 : (4294967296 : Int) ≤ (r' : Int) := by omega
        clear hbr hyp hb
        by_cases g0 : 4294967296 ≤ qn
        · have g1 : (4294967296 : Int) ≤ (qn : Int) := by omega
          clear hc c0 g0
          have HYp := Lib.hid (show 0 < Y by have := HYe.out; omega)
          have hR := kn_rem (u := U) (v := l1) HYp.out HB.out
          obtain ⟨R, hRe⟩ : ∃ x, x = (U * 4294967296 + l1) % Y := ⟨_, rfl⟩
          rw [← hRe] at hR
          have hRY : R < Y := by rw [hRe]; exact Nat.mod_lt _ HYp.out
          have hY1 := HY1.out
          have hU3 := HU3.out
          obtain ⟨z, hz⟩ : ∃ z, z = q' * Y := ⟨_, rfl⟩
          rw [← hz] at hR
          obtain ⟨x1, hx1⟩ : ∃ x, x = U * 4294967296 % 18446744073709551616 := ⟨_, rfl⟩
          obtain ⟨x2, hx2⟩ : ∃ x, x = (x1 + l1) % 18446744073709551616 := ⟨_, rfl⟩
          obtain ⟨x3, hx3⟩ : ∃ x, x = z % 18446744073709551616 := ⟨_, rfl⟩
          have f1 : IntKind.u64.wrap ((U : Int) * 4294967296) = (x1 : Int) := by rw [IntKind.wrap_u64]; omega
          have f2 : IntKind.u64.wrap ((x1 : Int) + (l1 : Int)) = (x2 : Int) := by rw [IntKind.wrap_u64]; omega
          have f3 : IntKind.u64.wrap ((q' : Int) * (Y : Int)) = (x3 : Int) := by rw [w_mul, ← hz, w_wrapM, hx3]
          have f4 : IntKind.u64.wrap ((x2 : Int) - (x3 : Int)) = (R : Int) := by rw [IntKind.wrap_u64]; omega
          have HRe := Lib.hid hRe
          have HRY := Lib.hid hRY
          obtain ⟨q0, hq0⟩ : ∃ q, q = R / a1 := ⟨_, rfl⟩
          obtain ⟨r0, hr0⟩ : ∃ r, r = R % a1 := ⟨_, rfl⟩
          have hUe2 : R = q0 * a1 + r0 := by rw [hq0, hr0, Nat.mul_comm]; exact (Nat.div_add_mod R a1).symm
          have hrl2 : r0 < a1 := by rw [hr0]; exact Nat.mod_lt _ (by omega)
          have hql2 : q0 < 17179869184 := by
            rw [hq0]; exact (Nat.div_lt_iff_lt_mul (by omega)).2 (by omega)
          have eq02 : (R : Int) / (a1 : Int) = (q0 : Int) := by rw [hq0]; simp
          have eqw2 : IntKind.u64.wrap (q0 : Int) = (q0 : Int) := w_wrap q0 (by omega)
          have hqa2 : q0 * a1 ≤ R := by omega
          obtain ⟨qa2, hqa2'⟩ : ∃ x, x = q0 * a1 := ⟨_, rfl⟩
          have eqm2 : IntKind.u64.wrap ((q0 : Int) * (a1 : Int)) = (qa2 : Int) := by rw [w_mul, hqa2']; exact w_wrap _ (by omega)
          have er2 : IntKind.u64.wrap ((R : Int) - (qa2 : Int)) = (r0 : Int) := by
            rw [show (R : Int) - (qa2 : Int) = (r0 : Int) by omega]; exact w_wrap _ (by omega)
          have HT2 := Lib.hid (show (R * 4294967296 + l0) / Y ≤ q0 by
            have := kn_start (y1 := a1) (y0 := a0) (u := R) (v := l0) (by omega) p5
            rw [← hq0, ← HYe.out] at this; exact this)
          have HQ2 := Lib.hid hql2
          have HRL2 := Lib.hid hrl2
          have HUe2 := Lib.hid hUe2
          clear hR hRe hRY hY1 hU3 hz hx1 hx2 hx3 hq0 hr0 hUe2 hrl2 hql2 hqa2 hqa2' HB
          go_wp2_with fail
          (try clear c0)
          (try clear d1')
          (try clear g1)
          (try clear g2)
          (try clear b1)
          clear c1 c2 d2 f1 f2 f3 f4 eq02 eqm2 er2 eq0 eqm er eqw eqw2
          go_loopw [16, 18] (fun sr sq wr => ∃ q r : Nat, sq = .int .u64 (q : Int) ∧ sr = .int .u64 (r : Int) ∧ q < 17179869184 ∧ r < 4294967296 ∧ Hid (R = q * a1 + r ∧ (R * 4294967296 + l0) / Y ≤ q) ∧ w = wr) (fun _ i _ => (intOf i).toNat)
          case atStart => exact ⟨q0, r0, rfl, rfl, HQ2.out, Nat.lt_trans HRL2.out p2, Lib.hid ⟨HUe2.out, HT2.out⟩, rfl⟩
          case round =>
            obtain ⟨q, r, rfl, rfl, hq, hr, HI, rfl⟩ := hrel
            have hI := HI.out
            have hyp := HYe.out
            obtain ⟨qb, hqb⟩ : ∃ x, x = q * a0 := ⟨_, rfl⟩
            have c0 : q < 4294967296 → IntKind.u64.wrap ((q : Int) * (a0 : Int)) = (qb : Int) := fun h => by rw [w_mul, ← hqb]; exact w_wrap _ (by rw [hqb]; exact Nat.lt_of_le_of_lt (Nat.mul_le_mul (show q ≤ 4294967295 by omega) (show a0 ≤ 4294967295 by omega)) (by decide))
            obtain ⟨rb, hrb⟩ : ∃ x, x = 4294967296 * r := ⟨_, rfl⟩
            have c1 : IntKind.u64.wrap (4294967296 * (r : Int)) = (rb : Int) := by rw [show 4294967296 * (r : Int) = (rb : Int) by omega]; exact w_wrap _ (by omega)
            obtain ⟨rv, hrv⟩ : ∃ x, x = rb + l0 := ⟨_, rfl⟩
            have c2 : IntKind.u64.wrap ((rb : Int) + (l0 : Int)) = (rv : Int) := by rw [show (rb : Int) + (l0 : Int) = (rv : Int) by omega]; exact w_wrap _ (by omega)
            obtain ⟨r', hr'⟩ : ∃ x, x = r + a1 := ⟨_, rfl⟩
            have d2 : IntKind.u64.wrap ((r : Int) + (a1 : Int)) = (r' : Int) := by rw [show (r : Int) + (a1 : Int) = (r' : Int) by omega]; exact w_wrap _ (by omega)
            have hu : R < a1 * 4294967296 + a0 := by rw [← hyp]; exact HRY.out
            have hpos : 0 < a1 := by omega
            by_cases hc : 4294967296 ≤ q ∨ rv < qb
            · have hst := kn_step hpos p5 hu hI.1 (by rcases hc with h | h; exact .inl h; exact .inr (by rw [← hqb, ← hrb, ← hrv]; exact h))
              rw [← hyp] at hst
              have hq1 : 1 ≤ q := Nat.lt_of_le_of_lt (Nat.zero_le _) hst
              obtain ⟨q', rfl⟩ : ∃ q', q = q' + 1 := ⟨q - 1, by omega⟩
              have d1' : IntKind.u64.wrap (((q' + 1 : Nat) : Int) - 1) = (q' : Int) := by rw [show ((q' + 1 : Nat) : Int) - 1 = (q' : Int) by omega]; exact w_wrap _ (by omega)
              have hI2 : R = q' * a1 + r' := by have h := hI.1; rw [Nat.add_mul, Nat.one_mul] at h; omega
              obtain ⟨qn, hqn⟩ : ∃ x, x = q' + 1 := ⟨_, rfl⟩
              rw [← hqn] at d1' c0 hc
              have HI2 := Lib.hid hI2
              have HST := Lib.hid (show (R * 4294967296 + l0) / Y ≤ q' from Nat.le_of_lt_succ hst)
              have HQ' := Lib.hid (show q' < 17179869184 by omega)
              have HQN := Lib.hid hqn
              rw [← hqn]
              have HQb := Lib.hid (show qb ≤ 18446744073709551615 → True from fun _ => trivial)
              clear hI HI hst hI2 hr' hrb hrv hqb hu hq hr hqn
              by_cases hb : 4294967296 ≤ r'
              · have hbr := kn_break (v := l0) hpos p3 (by rw [← hyp]; exact HRY.out) HI2.out (by rw [← hyp]; exact HST.out) hb
                rw [← hyp] at hbr
                have HB := Lib.hid hbr
                have b1 : (4294967296 : Int) ≤ (r' : Int) := by omega
                clear hbr hyp hb
                by_cases g0 : 4294967296 ≤ qn
                · have g1 : (4294967296 : Int) ≤ (qn : Int) := by omega
                  clear hc c0 g0
                  have hR2 := kn_rem (u := R) (v := l0) HYp.out HB.out
                  obtain ⟨R2, hR2e⟩ : ∃ x, x = (R * 4294967296 + l0) % Y := ⟨_, rfl⟩
                  rw [← hR2e] at hR2
                  have hR2Y : R2 < Y := by rw [hR2e]; exact Nat.mod_lt _ HYp.out
                  have hY1 := HY1.out
                  obtain ⟨z2, hz2⟩ : ∃ z, z = q' * Y := ⟨_, rfl⟩
                  rw [← hz2] at hR2
                  obtain ⟨xa, hxa⟩ : ∃ x, x = R * 4294967296 % 18446744073709551616 := ⟨_, rfl⟩
                  obtain ⟨xb, hxb⟩ : ∃ x, x = (xa + l0) % 18446744073709551616 := ⟨_, rfl⟩
                  obtain ⟨xc, hxc⟩ : ∃ x, x = z2 % 18446744073709551616 := ⟨_, rfl⟩
                  have j1 : IntKind.u64.wrap ((R : Int) * 4294967296) = (xa : Int) := by rw [IntKind.wrap_u64]; omega
                  have j2 : IntKind.u64.wrap ((xa : Int) + (l0 : Int)) = (xb : Int) := by rw [IntKind.wrap_u64]; omega
                  have j3 : IntKind.u64.wrap ((q' : Int) * (Y : Int)) = (xc : Int) := by rw [w_mul, ← hz2, w_wrapM, hxc]
                  have j4 : IntKind.u64.wrap ((xb : Int) - (xc : Int)) = (R2 : Int) := by rw [IntKind.wrap_u64]; omega
                  obtain ⟨G, hG⟩ : ∃ x, x = R2 / 2 ^ s := ⟨_, rfl⟩
                  have j5 : (R2 : Int) / 2 ^ s = (G : Int) := by rw [hG]; simp
                  have HG := Lib.hid (show G = (hi * 18446744073709551616 + lo) % y by rw [hG, hR2e, HRe.out, kn_two, ← HLe.out]; exact HR.out)
                  have HGi := Lib.hid (show ((hi : Int) * 18446744073709551616 + (lo : Int)) % (y : Int) = (G : Int) by rw [HG.out]; simp)
                  clear hR2 hR2e hR2Y hY1 hz2 hxa hxb hxc hG
                  go_wp2
                  go_ret2
                  first | rw [← HG.out] | rw [HGi.out]
                  exact ⟨⟨_, rfl⟩, 0, rfl⟩
                · have g1 : ¬ (4294967296 : Int) ≤ (qn : Int) := by omega
                  have g2 : (rv : Int) < (qb : Int) := by omega
                  have c0 := c0 (by omega)
                  clear hc g0
                  have hR2 := kn_rem (u := R) (v := l0) HYp.out HB.out
                  obtain ⟨R2, hR2e⟩ : ∃ x, x = (R * 4294967296 + l0) % Y := ⟨_, rfl⟩
                  rw [← hR2e] at hR2
                  have hR2Y : R2 < Y := by rw [hR2e]; exact Nat.mod_lt _ HYp.out
                  have hY1 := HY1.out
                  obtain ⟨z2, hz2⟩ : ∃ z, z = q' * Y := ⟨_, rfl⟩
                  rw [← hz2] at hR2
                  obtain ⟨xa, hxa⟩ : ∃ x, x = R * 4294967296 % 18446744073709551616 := ⟨_, rfl⟩
                  obtain ⟨xb, hxb⟩ : ∃ x, x = (xa + l0) % 18446744073709551616 := ⟨_, rfl⟩
                  obtain ⟨xc, hxc⟩ : ∃ x, x = z2 % 18446744073709551616 := ⟨_, rfl⟩
                  have j1 : IntKind.u64.wrap ((R : Int) * 4294967296) = (xa : Int) := by rw [IntKind.wrap_u64]; omega
                  have j2 : IntKind.u64.wrap ((xa : Int) + (l0 : Int)) = (xb : Int) := by rw [IntKind.wrap_u64]; omega
                  have j3 : IntKind.u64.wrap ((q' : Int) * (Y : Int)) = (xc : Int) := by rw [w_mul, ← hz2, w_wrapM, hxc]
                  have j4 : IntKind.u64.wrap ((xb : Int) - (xc : Int)) = (R2 : Int) := by rw [IntKind.wrap_u64]; omega
                  obtain ⟨G, hG⟩ : ∃ x, x = R2 / 2 ^ s := ⟨_, rfl⟩
                  have j5 : (R2 : Int) / 2 ^ s = (G : Int) := by rw [hG]; simp
                  have HG := Lib.hid (show G = (hi * 18446744073709551616 + lo) % y by rw [hG, hR2e, HRe.out, kn_two, ← HLe.out]; exact HR.out)
                  have HGi := Lib.hid (show ((hi : Int) * 18446744073709551616 + (lo : Int)) % (y : Int) = (G : Int) by rw [HG.out]; simp)
                  clear hR2 hR2e hR2Y hY1 hz2 hxa hxb hxc hG
                  go_wp2
                  go_ret2
                  first | rw [← HG.out] | rw [HGi.out]
                  exact ⟨⟨_, rfl⟩, 0, rfl⟩
              · have b1 : ¬ (4294967296 : Int) ≤ (r' : Int) := by omega
                have HRB := Lib.hid (show r' < 4294967296 by omega)
                clear hyp hb
                by_cases g0 : 4294967296 ≤ qn
                · have g1 : (4294967296 : Int) ≤ (qn : Int) := by omega
                  clear hc c0 g0
                  go_wp2
                  exact ⟨⟨q', r', rfl, rfl, HQ'.out, HRB.out, Lib.hid ⟨HI2.out, HST.out⟩, (by trivial)⟩, by have := HQN.out; simp [intOf]; omega⟩
                · have g1 : ¬ (4294967296 : Int) ≤ (qn : Int) := by omega
                  have g2 : (rv : Int) < (qb : Int) := by omega
                  have c0 := c0 (by omega)
                  clear hc g0
                  go_wp2
                  exact ⟨⟨q', r', rfl, rfl, HQ'.out, HRB.out, Lib.hid ⟨HI2.out, HST.out⟩, (by trivial)⟩, by have := HQN.out; simp [intOf]; omega⟩
            · have hen := kn_end (v := l0) hpos hI.1 (by rw [← hyp]; exact hI.2) (by rw [← hqb, ← hrb, ← hrv]; omega)
              rw [← hyp] at hen
              have HB := Lib.hid hen
              have g1 : ¬ (4294967296 : Int) ≤ (q : Int) := by omega
              have g2 : ¬ (rv : Int) < (qb : Int) := by omega
              have c0 := c0 (by omega)
              obtain ⟨q', rfl⟩ : ∃ q', q' = q := ⟨_, rfl⟩
              clear hen hI HI hr' hrb hrv hqb hu hq hr hc hyp
              have hR2 := kn_rem (u := R) (v := l0) HYp.out HB.out
              obtain ⟨R2, hR2e⟩ : ∃ x, x = (R * 4294967296 + l0) % Y := ⟨_, rfl⟩
              rw [← hR2e] at hR2
              have hR2Y : R2 < Y := by rw [hR2e]; exact Nat.mod_lt _ HYp.out
              have hY1 := HY1.out
              obtain ⟨z2, hz2⟩ : ∃ z, z = q' * Y := ⟨_, rfl⟩
              rw [← hz2] at hR2
              obtain ⟨xa, hxa⟩ : ∃ x, x = R * 4294967296 % 18446744073709551616 := ⟨_, rfl⟩
              obtain ⟨xb, hxb⟩ : ∃ x, x = (xa + l0) % 18446744073709551616 := ⟨_, rfl⟩
              obtain ⟨xc, hxc⟩ : ∃ x, x = z2 % 18446744073709551616 := ⟨_, rfl⟩
              have j1 : IntKind.u64.wrap ((R : Int) * 4294967296) = (xa : Int) := by rw [IntKind.wrap_u64]; omega
              have j2 : IntKind.u64.wrap ((xa : Int) + (l0 : Int)) = (xb : Int) := by rw [IntKind.wrap_u64]; omega
              have j3 : IntKind.u64.wrap ((q' : Int) * (Y : Int)) = (xc : Int) := by rw [w_mul, ← hz2, w_wrapM, hxc]
              have j4 : IntKind.u64.wrap ((xb : Int) - (xc : Int)) = (R2 : Int) := by rw [IntKind.wrap_u64]; omega
              obtain ⟨G, hG⟩ : ∃ x, x = R2 / 2 ^ s := ⟨_, rfl⟩
              have j5 : (R2 : Int) / 2 ^ s = (G : Int) := by rw [hG]; simp
              have HG := Lib.hid (show G = (hi * 18446744073709551616 + lo) % y by rw [hG, hR2e, HRe.out, kn_two, ← HLe.out]; exact HR.out)
              have HGi := Lib.hid (show ((hi : Int) * 18446744073709551616 + (lo : Int)) % (y : Int) = (G : Int) by rw [HG.out]; simp)
              clear hR2 hR2e hR2Y hY1 hz2 hxa hxb hxc hG
              go_wp2
              go_ret2
              first | rw [← HG.out] | rw [HGi.out]
              exact ⟨⟨_, rfl⟩, 0, rfl⟩
        · have g1 : ¬ (4294967296 : Int) ≤ (qn : Int) := by omega
          have g2 : (rv : Int) < (qb : Int) := by omega
          have c0 := c0 (by omega)
          clear hc g0
          have HYp := Lib.hid (show 0 < Y by have := HYe.out; omega)
          have hR := kn_rem (u := U) (v := l1) HYp.out HB.out
          obtain ⟨R, hRe⟩ : ∃ x, x = (U * 4294967296 + l1) % Y := ⟨_, rfl⟩
          rw [← hRe] at hR
          have hRY : R < Y := by rw [hRe]; exact Nat.mod_lt _ HYp.out
          have hY1 := HY1.out
          have hU3 := HU3.out
          obtain ⟨z, hz⟩ : ∃ z, z = q' * Y := ⟨_, rfl⟩
          rw [← hz] at hR
          obtain ⟨x1, hx1⟩ : ∃ x, x = U * 4294967296 % 18446744073709551616 := ⟨_, rfl⟩
          obtain ⟨x2, hx2⟩ : ∃ x, x = (x1 + l1) % 18446744073709551616 := ⟨_, rfl⟩
          obtain ⟨x3, hx3⟩ : ∃ x, x = z % 18446744073709551616 := ⟨_, rfl⟩
          have f1 : IntKind.u64.wrap ((U : Int) * 4294967296) = (x1 : Int) := by rw [IntKind.wrap_u64]; omega
          have f2 : IntKind.u64.wrap ((x1 : Int) + (l1 : Int)) = (x2 : Int) := by rw [IntKind.wrap_u64]; omega
          have f3 : IntKind.u64.wrap ((q' : Int) * (Y : Int)) = (x3 : Int) := by rw [w_mul, ← hz, w_wrapM, hx3]
          have f4 : IntKind.u64.wrap ((x2 : Int) - (x3 : Int)) = (R : Int) := by rw [IntKind.wrap_u64]; omega
          have HRe := Lib.hid hRe
          have HRY := Lib.hid hRY
          obtain ⟨q0, hq0⟩ : ∃ q, q = R / a1 := ⟨_, rfl⟩
          obtain ⟨r0, hr0⟩ : ∃ r, r = R % a1 := ⟨_, rfl⟩
          have hUe2 : R = q0 * a1 + r0 := by rw [hq0, hr0, Nat.mul_comm]; exact (Nat.div_add_mod R a1).symm
          have hrl2 : r0 < a1 := by rw [hr0]; exact Nat.mod_lt _ (by omega)
          have hql2 : q0 < 17179869184 := by
            rw [hq0]; exact (Nat.div_lt_iff_lt_mul (by omega)).2 (by omega)
          have eq02 : (R : Int) / (a1 : Int) = (q0 : Int) := by rw [hq0]; simp
          have eqw2 : IntKind.u64.wrap (q0 : Int) = (q0 : Int) := w_wrap q0 (by omega)
          have hqa2 : q0 * a1 ≤ R := by omega
          obtain ⟨qa2, hqa2'⟩ : ∃ x, x = q0 * a1 := ⟨_, rfl⟩
          have eqm2 : IntKind.u64.wrap ((q0 : Int) * (a1 : Int)) = (qa2 : Int) := by rw [w_mul, hqa2']; exact w_wrap _ (by omega)
          have er2 : IntKind.u64.wrap ((R : Int) - (qa2 : Int)) = (r0 : Int) := by
            rw [show (R : Int) - (qa2 : Int) = (r0 : Int) by omega]; exact w_wrap _ (by omega)
          have HT2 := Lib.hid (show (R * 4294967296 + l0) / Y ≤ q0 by
            have := kn_start (y1 := a1) (y0 := a0) (u := R) (v := l0) (by omega) p5
            rw [← hq0, ← HYe.out] at this; exact this)
          have HQ2 := Lib.hid hql2
          have HRL2 := Lib.hid hrl2
          have HUe2 := Lib.hid hUe2
          clear hR hRe hRY hY1 hU3 hz hx1 hx2 hx3 hq0 hr0 hUe2 hrl2 hql2 hqa2 hqa2' HB
          go_wp2_with fail
          (try clear c0)
          (try clear d1')
          (try clear g1)
          (try clear g2)
          (try clear b1)
          clear c1 c2 d2 f1 f2 f3 f4 eq02 eqm2 er2 eq0 eqm er eqw eqw2
          go_loopw [16, 18] (fun sr sq wr => ∃ q r : Nat, sq = .int .u64 (q : Int) ∧ sr = .int .u64 (r : Int) ∧ q < 17179869184 ∧ r < 4294967296 ∧ Hid (R = q * a1 + r ∧ (R * 4294967296 + l0) / Y ≤ q) ∧ w = wr) (fun _ i _ => (intOf i).toNat)
          case atStart => exact ⟨q0, r0, rfl, rfl, HQ2.out, Nat.lt_trans HRL2.out p2, Lib.hid ⟨HUe2.out, HT2.out⟩, rfl⟩
          case round =>
            obtain ⟨q, r, rfl, rfl, hq, hr, HI, rfl⟩ := hrel
            have hI := HI.out
            have hyp := HYe.out
            obtain ⟨qb, hqb⟩ : ∃ x, x = q * a0 := ⟨_, rfl⟩
            have c0 : q < 4294967296 → IntKind.u64.wrap ((q : Int) * (a0 : Int)) = (qb : Int) := fun h => by rw [w_mul, ← hqb]; exact w_wrap _ (by rw [hqb]; exact Nat.lt_of_le_of_lt (Nat.mul_le_mul (show q ≤ 4294967295 by omega) (show a0 ≤ 4294967295 by omega)) (by decide))
            obtain ⟨rb, hrb⟩ : ∃ x, x = 4294967296 * r := ⟨_, rfl⟩
            have c1 : IntKind.u64.wrap (4294967296 * (r : Int)) = (rb : Int) := by rw [show 4294967296 * (r : Int) = (rb : Int) by omega]; exact w_wrap _ (by omega)
            obtain ⟨rv, hrv⟩ : ∃ x, x = rb + l0 := ⟨_, rfl⟩
            have c2 : IntKind.u64.wrap ((rb : Int) + (l0 : Int)) = (rv : Int) := by rw [show (rb : Int) + (l0 : Int) = (rv : Int) by omega]; exact w_wrap _ (by omega)
            obtain ⟨r', hr'⟩ : ∃ x, x = r + a1 := ⟨_, rfl⟩
            have d2 : IntKind.u64.wrap ((r : Int) + (a1 : Int)) = (r' : Int) := by rw [show (r : Int) + (a1 : Int) = (r' : Int) by omega]; exact w_wrap _ (by omega)
            have hu : R < a1 * 4294967296 + a0 := by rw [← hyp]; exact HRY.out
            have hpos : 0 < a1 := by omega
            by_cases hc : 4294967296 ≤ q ∨ rv < qb
            · have hst := kn_step hpos p5 hu hI.1 (by rcases hc with h | h; exact .inl h; exact .inr (by rw [← hqb, ← hrb, ← hrv]; exact h))
              rw [← hyp] at hst
              have hq1 : 1 ≤ q := Nat.lt_of_le_of_lt (Nat.zero_le _) hst
              obtain ⟨q', rfl⟩ : ∃ q', q = q' + 1 := ⟨q - 1, by omega⟩
              have d1' : IntKind.u64.wrap (((q' + 1 : Nat) : Int) - 1) = (q' : Int) := by rw [show ((q' + 1 : Nat) : Int) - 1 = (q' : Int) by omega]; exact w_wrap _ (by omega)
              have hI2 : R = q' * a1 + r' := by have h := hI.1; rw [Nat.add_mul, Nat.one_mul] at h; omega
              obtain ⟨qn, hqn⟩ : ∃ x, x = q' + 1 := ⟨_, rfl⟩
              rw [← hqn] at d1' c0 hc
              have HI2 := Lib.hid hI2
              have HST := Lib.hid (show (R * 4294967296 + l0) / Y ≤ q' from Nat.le_of_lt_succ hst)
              have HQ' := Lib.hid (show q' < 17179869184 by omega)
              have HQN := Lib.hid hqn
              rw [← hqn]
              have HQb := Lib.hid (show qb ≤ 18446744073709551615 → True from fun _ => trivial)
              clear hI HI hst hI2 hr' hrb hrv hqb hu hq hr hqn
              by_cases hb : 4294967296 ≤ r'
              · have hbr := kn_break (v := l0) hpos p3 (by rw [← hyp]; exact HRY.out) HI2.out (by rw [← hyp]; exact HST.out) hb
                rw [← hyp] at hbr
                have HB := Lib.hid hbr
                have b1 : (4294967296 : Int) ≤ (r' : Int) := by omega
                clear hbr hyp hb
                by_cases g0 : 4294967296 ≤ qn
                · have g1 : (4294967296 : Int) ≤ (qn : Int) := by omega
                  clear hc c0 g0
                  have hR2 := kn_rem (u := R) (v := l0) HYp.out HB.out
                  obtain ⟨R2, hR2e⟩ : ∃ x, x = (R * 4294967296 + l0) % Y := ⟨_, rfl⟩
                  rw [← hR2e] at hR2
                  have hR2Y : R2 < Y := by rw [hR2e]; exact Nat.mod_lt _ HYp.out
                  have hY1 := HY1.out
                  obtain ⟨z2, hz2⟩ : ∃ z, z = q' * Y := ⟨_, rfl⟩
                  rw [← hz2] at hR2
                  obtain ⟨xa, hxa⟩ : ∃ x, x = R * 4294967296 % 18446744073709551616 := ⟨_, rfl⟩
                  obtain ⟨xb, hxb⟩ : ∃ x, x = (xa + l0) % 18446744073709551616 := ⟨_, rfl⟩
                  obtain ⟨xc, hxc⟩ : ∃ x, x = z2 % 18446744073709551616 := ⟨_, rfl⟩
                  have j1 : IntKind.u64.wrap ((R : Int) * 4294967296) = (xa : Int) := by rw [IntKind.wrap_u64]; omega
                  have j2 : IntKind.u64.wrap ((xa : Int) + (l0 : Int)) = (xb : Int) := by rw [IntKind.wrap_u64]; omega
                  have j3 : IntKind.u64.wrap ((q' : Int) * (Y : Int)) = (xc : Int) := by rw [w_mul, ← hz2, w_wrapM, hxc]
                  have j4 : IntKind.u64.wrap ((xb : Int) - (xc : Int)) = (R2 : Int) := by rw [IntKind.wrap_u64]; omega
                  obtain ⟨G, hG⟩ : ∃ x, x = R2 / 2 ^ s := ⟨_, rfl⟩
                  have j5 : (R2 : Int) / 2 ^ s = (G : Int) := by rw [hG]; simp
                  have HG := Lib.hid (show G = (hi * 18446744073709551616 + lo) % y by rw [hG, hR2e, HRe.out, kn_two, ← HLe.out]; exact HR.out)
                  have HGi := Lib.hid (show ((hi : Int) * 18446744073709551616 + (lo : Int)) % (y : Int) = (G : Int) by rw [HG.out]; simp)
                  clear hR2 hR2e hR2Y hY1 hz2 hxa hxb hxc hG
                  go_wp2
                  go_ret2
                  first | rw [← HG.out] | rw [HGi.out]
                  exact ⟨⟨_, rfl⟩, 0, rfl⟩
                · have g1 : ¬ (4294967296 : Int) ≤ (qn : Int) := by omega
                  have g2 : (rv : Int) < (qb : Int) := by omega
                  have c0 := c0 (by omega)
                  clear hc g0
                  have hR2 := kn_rem (u := R) (v := l0) HYp.out HB.out
                  obtain ⟨R2, hR2e⟩ : ∃ x, x = (R * 4294967296 + l0) % Y := ⟨_, rfl⟩
                  rw [← hR2e] at hR2
                  have hR2Y : R2 < Y := by rw [hR2e]; exact Nat.mod_lt _ HYp.out
                  have hY1 := HY1.out
                  obtain ⟨z2, hz2⟩ : ∃ z, z = q' * Y := ⟨_, rfl⟩
                  rw [← hz2] at hR2
                  obtain ⟨xa, hxa⟩ : ∃ x, x = R * 4294967296 % 18446744073709551616 := ⟨_, rfl⟩
                  obtain ⟨xb, hxb⟩ : ∃ x, x = (xa + l0) % 18446744073709551616 := ⟨_, rfl⟩
                  obtain ⟨xc, hxc⟩ : ∃ x, x = z2 % 18446744073709551616 := ⟨_, rfl⟩
                  have j1 : IntKind.u64.wrap ((R : Int) * 4294967296) = (xa : Int) := by rw [IntKind.wrap_u64]; omega
                  have j2 : IntKind.u64.wrap ((xa : Int) + (l0 : Int)) = (xb : Int) := by rw [IntKind.wrap_u64]; omega
                  have j3 : IntKind.u64.wrap ((q' : Int) * (Y : Int)) = (xc : Int) := by rw [w_mul, ← hz2, w_wrapM, hxc]
                  have j4 : IntKind.u64.wrap ((xb : Int) - (xc : Int)) = (R2 : Int) := by rw [IntKind.wrap_u64]; omega
                  obtain ⟨G, hG⟩ : ∃ x, x = R2 / 2 ^ s := ⟨_, rfl⟩
                  have j5 : (R2 : Int) / 2 ^ s = (G : Int) := by rw [hG]; simp
                  have HG := Lib.hid (show G = (hi * 18446744073709551616 + lo) % y by rw [hG, hR2e, HRe.out, kn_two, ← HLe.out]; exact HR.out)
                  have HGi := Lib.hid (show ((hi : Int) * 18446744073709551616 + (lo : Int)) % (y : Int) = (G : Int) by rw [HG.out]; simp)
                  clear hR2 hR2e hR2Y hY1 hz2 hxa hxb hxc hG
                  go_wp2
                  go_ret2
                  first | rw [← HG.out] | rw [HGi.out]
                  exact ⟨⟨_, rfl⟩, 0, rfl⟩
              · have b1 : ¬ (4294967296 : Int) ≤ (r' : Int) := by omega
                have HRB := Lib.hid (show r' < 4294967296 by omega)
                clear hyp hb
                by_cases g0 : 4294967296 ≤ qn
                · have g1 : (4294967296 : Int) ≤ (qn : Int) := by omega
                  clear hc c0 g0
                  go_wp2
                  exact ⟨⟨q', r', rfl, rfl, HQ'.out, HRB.out, Lib.hid ⟨HI2.out, HST.out⟩, (by trivial)⟩, by have := HQN.out; simp [intOf]; omega⟩
                · have g1 : ¬ (4294967296 : Int) ≤ (qn : Int) := by omega
                  have g2 : (rv : Int) < (qb : Int) := by omega
                  have c0 := c0 (by omega)
                  clear hc g0
                  go_wp2
                  exact ⟨⟨q', r', rfl, rfl, HQ'.out, HRB.out, Lib.hid ⟨HI2.out, HST.out⟩, (by trivial)⟩, by have := HQN.out; simp [intOf]; omega⟩
            · have hen := kn_end (v := l0) hpos hI.1 (by rw [← hyp]; exact hI.2) (by rw [← hqb, ← hrb, ← hrv]; omega)
              rw [← hyp] at hen
              have HB := Lib.hid hen
              have g1 : ¬ (4294967296 : Int) ≤ (q : Int) := by omega
              have g2 : ¬ (rv : Int) < (qb : Int) := by omega
              have c0 := c0 (by omega)
              obtain ⟨q', rfl⟩ : ∃ q', q' = q := ⟨_, rfl⟩
              clear hen hI HI hr' hrb hrv hqb hu hq hr hc hyp
              have hR2 := kn_rem (u := R) (v := l0) HYp.out HB.out
              obtain ⟨R2, hR2e⟩ : ∃ x, x = (R * 4294967296 + l0) % Y := ⟨_, rfl⟩
              rw [← hR2e] at hR2
              have hR2Y : R2 < Y := by rw [hR2e]; exact Nat.mod_lt _ HYp.out
              have hY1 := HY1.out
              obtain ⟨z2, hz2⟩ : ∃ z, z = q' * Y := ⟨_, rfl⟩
              rw [← hz2] at hR2
              obtain ⟨xa, hxa⟩ : ∃ x, x = R * 4294967296 % 18446744073709551616 := ⟨_, rfl⟩
              obtain ⟨xb, hxb⟩ : ∃ x, x = (xa + l0) % 18446744073709551616 := ⟨_, rfl⟩
              obtain ⟨xc, hxc⟩ : ∃ x, x = z2 % 18446744073709551616 := ⟨_, rfl⟩
              have j1 : IntKind.u64.wrap ((R : Int) * 4294967296) = (xa : Int) := by rw [IntKind.wrap_u64]; omega
              have j2 : IntKind.u64.wrap ((xa : Int) + (l0 : Int)) = (xb : Int) := by rw [IntKind.wrap_u64]; omega
              have j3 : IntKind.u64.wrap ((q' : Int) * (Y : Int)) = (xc : Int) := by rw [w_mul, ← hz2, w_wrapM, hxc]
              have j4 : IntKind.u64.wrap ((xb : Int) - (xc : Int)) = (R2 : Int) := by rw [IntKind.wrap_u64]; omega
              obtain ⟨G, hG⟩ : ∃ x, x = R2 / 2 ^ s := ⟨_, rfl⟩
              have j5 : (R2 : Int) / 2 ^ s = (G : Int) := by rw [hG]; simp
              have HG := Lib.hid (show G = (hi * 18446744073709551616 + lo) % y by rw [hG, hR2e, HRe.out, kn_two, ← HLe.out]; exact HR.out)
              have HGi := Lib.hid (show ((hi : Int) * 18446744073709551616 + (lo : Int)) % (y : Int) = (G : Int) by rw [HG.out]; simp)
              clear hR2 hR2e hR2Y hY1 hz2 hxa hxb hxc hG
              go_wp2
              go_ret2
              first | rw [← HG.out] | rw [HGi.out]
              exact ⟨⟨_, rfl⟩, 0, rfl⟩
      · have b1 : ¬ (4294967296 : Int) ≤ (r' : Int) := by omega
        have HRB := Lib.hid (show r' < 4294967296 by omega)
        clear hyp hb
        by_cases g0 : 4294967296 ≤ qn
        · have g1 : (4294967296 : Int) ≤ (qn : Int) := by omega
          clear hc c0 g0
          go_wp2
          exact ⟨⟨q', r', rfl, rfl, HQ'.out, HRB.out, Lib.hid ⟨HI2.out, HST.out⟩, (by trivial)⟩, by have := HQN.out; simp [intOf]; omega⟩
        · have g1 : ¬ (4294967296 : Int) ≤ (qn : Int) := by omega
          have g2 : (rv : Int) < (qb : Int) := by omega
          have c0 := c0 (by omega)
          clear hc g0
          go_wp2
          exact ⟨⟨q', r', rfl, rfl, HQ'.out, HRB.out, Lib.hid ⟨HI2.out, HST.out⟩, (by trivial)⟩, by have := HQN.out; simp [intOf]; omega⟩
    · have hen := kn_end (v := l1) hpos hI.1 (by rw [← hyp]; exact hI.2) (by rw [← hqb, ← hrb, ← hrv]; omega)
      rw [← hyp] at hen
      have HB := Lib.hid hen
      have g1 : ¬ (4294967296 : Int) ≤ (q : Int) := by omega
      have g2 : ¬ (rv : Int) < (qb : Int) := by omega
      have c0 := c0 (by omega)
      obtain ⟨q', rfl⟩ : ∃ q', q' = q := ⟨_, rfl⟩
      clear hen hI HI hr' hrb hrv hqb hu hq hr hc hyp
      have HYp := Lib.hid (show 0 < Y by have := HYe.out; omega)
      have hR := kn_rem (u := U) (v := l1) HYp.out HB.out
      obtain ⟨R, hRe⟩ : ∃ x, x = (U * 4294967296 + l1) % Y := ⟨_, rfl⟩
      rw [← hRe] at hR
      have hRY : R < Y := by rw [hRe]; exact Nat.mod_lt _ HYp.out
      have hY1 := HY1.out
      have hU3 := HU3.out
      obtain ⟨z, hz⟩ : ∃ z, z = q' * Y := ⟨_, rfl⟩
      rw [← hz] at hR
      obtain ⟨x1, hx1⟩ : ∃ x, x = U * 4294967296 % 18446744073709551616 := ⟨_, rfl⟩
      obtain ⟨x2, hx2⟩ : ∃ x, x = (x1 + l1) % 18446744073709551616 := ⟨_, rfl⟩
      obtain ⟨x3, hx3⟩ : ∃ x, x = z % 18446744073709551616 := ⟨_, rfl⟩
      have f1 : IntKind.u64.wrap ((U : Int) * 4294967296) = (x1 : Int) := by rw [IntKind.wrap_u64]; omega
      have f2 : IntKind.u64.wrap ((x1 : Int) + (l1 : Int)) = (x2 : Int) := by rw [IntKind.wrap_u64]; omega
      have f3 : IntKind.u64.wrap ((q' : Int) * (Y : Int)) = (x3 : Int) := by rw [w_mul, ← hz, w_wrapM, hx3]
      have f4 : IntKind.u64.wrap ((x2 : Int) - (x3 : Int)) = (R : Int) := by rw [IntKind.wrap_u64]; omega
      have HRe := Lib.hid hRe
      have HRY := Lib.hid hRY
      obtain ⟨q0, hq0⟩ : ∃ q, q = R / a1 := ⟨_, rfl⟩
      obtain ⟨r0, hr0⟩ : ∃ r, r = R % a1 := ⟨_, rfl⟩
      have hUe2 : R = q0 * a1 + r0 := by rw [hq0, hr0, Nat.mul_comm]; exact (Nat.div_add_mod R a1).symm
      have hrl2 : r0 < a1 := by rw [hr0]; exact Nat.mod_lt _ (by omega)
      have hql2 : q0 < 17179869184 := by
        rw [hq0]; exact (Nat.div_lt_iff_lt_mul (by omega)).2 (by omega)
      have eq02 : (R : Int) / (a1 : Int) = (q0 : Int) := by rw [hq0]; simp
      have eqw2 : IntKind.u64.wrap (q0 : Int) = (q0 : Int) := w_wrap q0 (by omega)
      have hqa2 : q0 * a1 ≤ R := by omega
      obtain ⟨qa2, hqa2'⟩ : ∃ x, x = q0 * a1 := ⟨_, rfl⟩
      have eqm2 : IntKind.u64.wrap ((q0 : Int) * (a1 : Int)) = (qa2 : Int) := by rw [w_mul, hqa2']; exact w_wrap _ (by omega)
      have er2 : IntKind.u64.wrap ((R : Int) - (qa2 : Int)) = (r0 : Int) := by
        rw [show (R : Int) - (qa2 : Int) = (r0 : Int) by omega]; exact w_wrap _ (by omega)
      have HT2 := Lib.hid (show (R * 4294967296 + l0) / Y ≤ q0 by
        have := kn_start (y1 := a1) (y0 := a0) (u := R) (v := l0) (by omega) p5
        rw [← hq0, ← HYe.out] at this; exact this)
      have HQ2 := Lib.hid hql2
      have HRL2 := Lib.hid hrl2
      have HUe2 := Lib.hid hUe2
      clear hR hRe hRY hY1 hU3 hz hx1 hx2 hx3 hq0 hr0 hUe2 hrl2 hql2 hqa2 hqa2' HB
      go_wp2_with fail
      (try clear c0)
      (try clear d1')
      (try clear g1)
      (try clear g2)
      (try clear b1)
      clear c1 c2 d2 f1 f2 f3 f4 eq02 eqm2 er2 eq0 eqm er eqw eqw2
      go_loopw [16, 18] (fun sr sq wr => ∃ q r : Nat, sq = .int .u64 (q : Int) ∧ sr = .int .u64 (r : Int) ∧ q < 17179869184 ∧ r < 4294967296 ∧ Hid (R = q * a1 + r ∧ (R * 4294967296 + l0) / Y ≤ q) ∧ w = wr) (fun _ i _ => (intOf i).toNat)
      case atStart => exact ⟨q0, r0, rfl, rfl, HQ2.out, Nat.lt_trans HRL2.out p2, Lib.hid ⟨HUe2.out, HT2.out⟩, rfl⟩
      case round =>
        obtain ⟨q, r, rfl, rfl, hq, hr, HI, rfl⟩ := hrel
        have hI := HI.out
        have hyp := HYe.out
        obtain ⟨qb, hqb⟩ : ∃ x, x = q * a0 := ⟨_, rfl⟩
        have c0 : q < 4294967296 → IntKind.u64.wrap ((q : Int) * (a0 : Int)) = (qb : Int) := fun h => by rw [w_mul, ← hqb]; exact w_wrap _ (by rw [hqb]; exact Nat.lt_of_le_of_lt (Nat.mul_le_mul (show q ≤ 4294967295 by omega) (show a0 ≤ 4294967295 by omega)) (by decide))
        obtain ⟨rb, hrb⟩ : ∃ x, x = 4294967296 * r := ⟨_, rfl⟩
        have c1 : IntKind.u64.wrap (4294967296 * (r : Int)) = (rb : Int) := by rw [show 4294967296 * (r : Int) = (rb : Int) by omega]; exact w_wrap _ (by omega)
        obtain ⟨rv, hrv⟩ : ∃ x, x = rb + l0 := ⟨_, rfl⟩
        have c2 : IntKind.u64.wrap ((rb : Int) + (l0 : Int)) = (rv : Int) := by rw [show (rb : Int) + (l0 : Int) = (rv : Int) by omega]; exact w_wrap _ (by omega)
        obtain ⟨r', hr'⟩ : ∃ x, x = r + a1 := ⟨_, rfl⟩
        have d2 : IntKind.u64.wrap ((r : Int) + (a1 : Int)) = (r' : Int) := by rw [show (r : Int) + (a1 : Int) = (r' : Int) by omega]; exact w_wrap _ (by omega)
        have hu : R < a1 * 4294967296 + a0 := by rw [← hyp]; exact HRY.out
        have hpos : 0 < a1 := by omega
        by_cases hc : 4294967296 ≤ q ∨ rv < qb
        · have hst := kn_step hpos p5 hu hI.1 (by rcases hc with h | h; exact .inl h; exact .inr (by rw [← hqb, ← hrb, ← hrv]; exact h))
          rw [← hyp] at hst
          have hq1 : 1 ≤ q := Nat.lt_of_le_of_lt (Nat.zero_le _) hst
          obtain ⟨q', rfl⟩ : ∃ q', q = q' + 1 := ⟨q - 1, by omega⟩
          have d1' : IntKind.u64.wrap (((q' + 1 : Nat) : Int) - 1) = (q' : Int) := by rw [show ((q' + 1 : Nat) : Int) - 1 = (q' : Int) by omega]; exact w_wrap _ (by omega)
          have hI2 : R = q' * a1 + r' := by have h := hI.1; rw [Nat.add_mul, Nat.one_mul] at h; omega
          obtain ⟨qn, hqn⟩ : ∃ x, x = q' + 1 := ⟨_, rfl⟩
          rw [← hqn] at d1' c0 hc
          have HI2 := Lib.hid hI2
          have HST := Lib.hid (show (R * 4294967296 + l0) / Y ≤ q' from Nat.le_of_lt_succ hst)
          have HQ' := Lib.hid (show q' < 17179869184 by omega)
          have HQN := Lib.hid hqn
          rw [← hqn]
          have HQb := Lib.hid (show qb ≤ 18446744073709551615 → True from fun _ => trivial)
          clear hI HI hst hI2 hr' hrb hrv hqb hu hq hr hqn
          by_cases hb : 4294967296 ≤ r'
          · have hbr := kn_break (v := l0) hpos p3 (by rw [← hyp]; exact HRY.out) HI2.out (by rw [← hyp]; exact HST.out) hb
            rw [← hyp] at hbr
            have HB := Lib.hid hbr
            have b1 : (4294967296 : Int) ≤ (r' : Int) := by omega
            clear hbr hyp hb
            by_cases g0 : 4294967296 ≤ qn
            · have g1 : (4294967296 : Int) ≤ (qn : Int) := by omega
              clear hc c0 g0
              have hR2 := kn_rem (u := R) (v := l0) HYp.out HB.out
              obtain ⟨R2, hR2e⟩ : ∃ x, x = (R * 4294967296 + l0) % Y := ⟨_, rfl⟩
              rw [← hR2e] at hR2
              have hR2Y : R2 < Y := by rw [hR2e]; exact Nat.mod_lt _ HYp.out
              have hY1 := HY1.out
              obtain ⟨z2, hz2⟩ : ∃ z, z = q' * Y := ⟨_, rfl⟩
              rw [← hz2] at hR2
              obtain ⟨xa, hxa⟩ : ∃ x, x = R * 4294967296 % 18446744073709551616 := ⟨_, rfl⟩
              obtain ⟨xb, hxb⟩ : ∃ x, x = (xa + l0) % 18446744073709551616 := ⟨_, rfl⟩
              obtain ⟨xc, hxc⟩ : ∃ x, x = z2 % 18446744073709551616 := ⟨_, rfl⟩
              have j1 : IntKind.u64.wrap ((R : Int) * 4294967296) = (xa : Int) := by rw [IntKind.wrap_u64]; omega
              have j2 : IntKind.u64.wrap ((xa : Int) + (l0 : Int)) = (xb : Int) := by rw [IntKind.wrap_u64]; omega
              have j3 : IntKind.u64.wrap ((q' : Int) * (Y : Int)) = (xc : Int) := by rw [w_mul, ← hz2, w_wrapM, hxc]
              have j4 : IntKind.u64.wrap ((xb : Int) - (xc : Int)) = (R2 : Int) := by rw [IntKind.wrap_u64]; omega
              obtain ⟨G, hG⟩ : ∃ x, x = R2 / 2 ^ s := ⟨_, rfl⟩
              have j5 : (R2 : Int) / 2 ^ s = (G : Int) := by rw [hG]; simp
              have HG := Lib.hid (show G = (hi * 18446744073709551616 + lo) % y by rw [hG, hR2e, HRe.out, kn_two, ← HLe.out]; exact HR.out)
              have HGi := Lib.hid (show ((hi : Int) * 18446744073709551616 + (lo : Int)) % (y : Int) = (G : Int) by rw [HG.out]; simp)
              clear hR2 hR2e hR2Y hY1 hz2 hxa hxb hxc hG
              go_wp2
              go_ret2
              first | rw [← HG.out] | rw [HGi.out]
              exact ⟨⟨_, rfl⟩, 0, rfl⟩
            · have g1 : ¬ (4294967296 : Int) ≤ (qn : Int) := by omega
              have g2 : (rv : Int) < (qb : Int) := by omega
              have c0 := c0 (by omega)
              clear hc g0
              have hR2 := kn_rem (u := R) (v := l0) HYp.out HB.out
              obtain ⟨R2, hR2e⟩ : ∃ x, x = (R * 4294967296 + l0) % Y := ⟨_, rfl⟩
              rw [← hR2e] at hR2
              have hR2Y : R2 < Y := by rw [hR2e]; exact Nat.mod_lt _ HYp.out
              have hY1 := HY1.out
              obtain ⟨z2, hz2⟩ : ∃ z, z = q' * Y := ⟨_, rfl⟩
              rw [← hz2] at hR2
              obtain ⟨xa, hxa⟩ : ∃ x, x = R * 4294967296 % 18446744073709551616 := ⟨_, rfl⟩
              obtain ⟨xb, hxb⟩ : ∃ x, x = (xa + l0) % 18446744073709551616 := ⟨_, rfl⟩
              obtain ⟨xc, hxc⟩ : ∃ x, x = z2 % 18446744073709551616 := ⟨_, rfl⟩
              have j1 : IntKind.u64.wrap ((R : Int) * 4294967296) = (xa : Int) := by rw [IntKind.wrap_u64]; omega
              have j2 : IntKind.u64.wrap ((xa : Int) + (l0 : Int)) = (xb : Int) := by rw [IntKind.wrap_u64]; omega
              have j3 : IntKind.u64.wrap ((q' : Int) * (Y : Int)) = (xc : Int) := by rw [w_mul, ← hz2, w_wrapM, hxc]
              have j4 : IntKind.u64.wrap ((xb : Int) - (xc : Int)) = (R2 : Int) := by rw [IntKind.wrap_u64]; omega
              obtain ⟨G, hG⟩ : ∃ x, x = R2 / 2 ^ s := ⟨_, rfl⟩
              have j5 : (R2 : Int) / 2 ^ s = (G : Int) := by rw [hG]; simp
              have HG := Lib.hid (show G = (hi * 18446744073709551616 + lo) % y by rw [hG, hR2e, HRe.out, kn_two, ← HLe.out]; exact HR.out)
              have HGi := Lib.hid (show ((hi : Int) * 18446744073709551616 + (lo : Int)) % (y : Int) = (G : Int) by rw [HG.out]; simp)
              clear hR2 hR2e hR2Y hY1 hz2 hxa hxb hxc hG
              go_wp2
              go_ret2
              first | rw [← HG.out] | rw [HGi.out]
              exact ⟨⟨_, rfl⟩, 0, rfl⟩
          · have b1 : ¬ (4294967296 : Int) ≤ (r' : Int) := by omega
            have HRB := Lib.hid (show r' < 4294967296 by omega)
            clear hyp hb
            by_cases g0 : 4294967296 ≤ qn
            · have g1 : (4294967296 : Int) ≤ (qn : Int) := by omega
              clear hc c0 g0
              go_wp2
              exact ⟨⟨q', r', rfl, rfl, HQ'.out, HRB.out, Lib.hid ⟨HI2.out, HST.out⟩, (by trivial)⟩, by have := HQN.out; simp [intOf]; omega⟩
            · have g1 : ¬ (4294967296 : Int) ≤ (qn : Int) := by omega
              have g2 : (rv : Int) < (qb : Int) := by omega
              have c0 := c0 (by omega)
              clear hc g0
              go_wp2
              exact ⟨⟨q', r', rfl, rfl, HQ'.out, HRB.out, Lib.hid ⟨HI2.out, HST.out⟩, (by trivial)⟩, by have := HQN.out; simp [intOf]; omega⟩
        · have hen := kn_end (v := l0) hpos hI.1 (by rw [← hyp]; exact hI.2) (by rw [← hqb, ← hrb, ← hrv]; omega)
          rw [← hyp] at hen
          have HB := Lib.hid hen
          have g1 : ¬ (4294967296 : Int) ≤ (q : Int) := by omega
          have g2 : ¬ (rv : Int) < (qb : Int) := by omega
          have c0 := c0 (by omega)
          obtain ⟨q', rfl⟩ : ∃ q', q' = q := ⟨_, rfl⟩
          clear hen hI HI hr' hrb hrv hqb hu hq hr hc hyp
          have hR2 := kn_rem (u := R) (v := l0) HYp.out HB.out
          obtain ⟨R2, hR2e⟩ : ∃ x, x = (R * 4294967296 + l0) % Y := ⟨_, rfl⟩
          rw [← hR2e] at hR2
          have hR2Y : R2 < Y := by rw [hR2e]; exact Nat.mod_lt _ HYp.out
          have hY1 := HY1.out
          obtain ⟨z2, hz2⟩ : ∃ z, z = q' * Y := ⟨_, rfl⟩
          rw [← hz2] at hR2
          obtain ⟨xa, hxa⟩ : ∃ x, x = R * 4294967296 % 18446744073709551616 := ⟨_, rfl⟩
          obtain ⟨xb, hxb⟩ : ∃ x, x = (xa + l0) % 18446744073709551616 := ⟨_, rfl⟩
          obtain ⟨xc, hxc⟩ : ∃ x, x = z2 % 18446744073709551616 := ⟨_, rfl⟩
          have j1 : IntKind.u64.wrap ((R : Int) * 4294967296) = (xa : Int) := by rw [IntKind.wrap_u64]; omega
          have j2 : IntKind.u64.wrap ((xa : Int) + (l0 : Int)) = (xb : Int) := by rw [IntKind.wrap_u64]; omega
          have j3 : IntKind.u64.wrap ((q' : Int) * (Y : Int)) = (xc : Int) := by rw [w_mul, ← hz2, w_wrapM, hxc]
          have j4 : IntKind.u64.wrap ((xb : Int) - (xc : Int)) = (R2 : Int) := by rw [IntKind.wrap_u64]; omega
          obtain ⟨G, hG⟩ : ∃ x, x = R2 / 2 ^ s := ⟨_, rfl⟩
          have j5 : (R2 : Int) / 2 ^ s = (G : Int) := by rw [hG]; simp
          have HG := Lib.hid (show G = (hi * 18446744073709551616 + lo) % y by rw [hG, hR2e, HRe.out, kn_two, ← HLe.out]; exact HR.out)
          have HGi := Lib.hid (show ((hi : Int) * 18446744073709551616 + (lo : Int)) % (y : Int) = (G : Int) by rw [HG.out]; simp)
          clear hR2 hR2e hR2Y hY1 hz2 hxa hxb hxc hG
          go_wp2
          go_ret2
          first | rw [← HG.out] | rw [HGi.out]
          exact ⟨⟨_, rfl⟩, 0, rfl⟩
end Go.Proofs.YtoednonijmkbjaaGreat

/- Products and powers modulo great numbers. -/
set_option linter.unusedSimpArgs false
set_option linter.unusedVariables false
namespace Go.Proofs.YtoednonijmkbjaaGreat
open Go.RowKit

theorem prod80 {a b m : Int} (ha : 0 ≤ a) (hb : 0 ≤ b) (ha' : a < m) (hb' : b < m) (hm : m ≤ 1099511627776) : 0 ≤ a * b ∧ a * b < 1208925819614629174706176 := by
  refine ⟨Int.mul_nonneg ha hb, ?_⟩
  have h1 : a * b ≤ 1099511627775 * 1099511627775 := Int.mul_le_mul (by omega) (by omega) hb (by omega)
  have : (1099511627775 * 1099511627775 : Int) < 1208925819614629174706176 := by decide
  omega

theorem emod_le' {a m : Int} (ha : 0 ≤ a) (hm : 0 < m) : a % m ≤ a := by
  have h := Int.mul_ediv_add_emod a m
  have h2 := Int.mul_nonneg (show 0 ≤ m by omega) (Int.ediv_nonneg ha (show 0 ≤ m by omega))
  omega
set_option maxHeartbeats 1000000 in
theorem mulW_c (m a b : Int) (w : World) (hm : 3000000000 < m) (hm' : m ≤ 1099511627776) (ha : 0 ≤ a) (hb : 0 ≤ b) (ha' : a < m) (hb' : b < m) (h : m < 1099511627776 ∨ a * b < 18446744073709551616) :
    Calls Tryz.prog 95 #[.int .i64 m, .int .i64 a, .int .i64 b] w fun e w' => e = .returned (.int .i64 (a * b % m)) ∧ ∃ d, w' = w.drewN d := by
  obtain ⟨x, rfl⟩ : ∃ x : Nat, a = x := ⟨a.toNat, by omega⟩
  obtain ⟨y, rfl⟩ : ∃ y : Nat, b = y := ⟨b.toNat, by omega⟩
  obtain ⟨M, rfl⟩ : ∃ M : Nat, m = M := ⟨m.toNat, by omega⟩
  have hp := (prod80 ha hb ha' hb' hm').2
  obtain ⟨z, hz⟩ : ∃ z, z = x * y := ⟨_, rfl⟩
  have hzi : (x : Int) * (y : Int) = (z : Int) := by rw [hz]; simp
  rw [hzi] at hp h ⊢
  have hmod := mod_lt' (a := (z : Int)) (show (0 : Int) < (M : Int) by omega)
  have e1 : IntKind.u64.wrap (x : Int) = (x : Int) := w_wrap x (by omega)
  have e2 : IntKind.u64.wrap (y : Int) = (y : Int) := w_wrap y (by omega)
  have e3 : IntKind.u64.wrap (M : Int) = (M : Int) := w_wrap M (by omega)
  have e4 : IntKind.i64.wrap ((z : Int) % (M : Int)) = (z : Int) % (M : Int) := IntWalk.i64_in _ (by omega)
  have g : ¬ (M : Int) ≤ 3000000000 := by omega
  have HZ := Lib.hid hz
  have HP := Lib.hid hp
  have HH := Lib.hid h
  clear hzi hz hp h
  obtain ⟨hi, hhi⟩ : ∃ h, h = z / 18446744073709551616 := ⟨_, rfl⟩
  obtain ⟨lo, hlo⟩ : ∃ l, l = z % 18446744073709551616 := ⟨_, rfl⟩
  have HI := Lib.hid hhi
  have LO := Lib.hid hlo
  have HZL := Lib.hid (show z = hi * 18446744073709551616 + lo by omega)
  clear hhi hlo
  go_enter Tryz.func95, Tryz.ntmps95
  go_wp2_with fail
  refine (Mul64_c x y (by omega) (by omega) _).mono ?_
  rw [← HZ.out, ← HI.out, ← LO.out]
  rintro e w' ⟨rfl, rfl⟩
  go_wp2_with fail
  by_cases h0 : hi = 0
  · subst h0
    refine (Div64_0 lo M (by have := LO.out; omega) (by omega) (by omega) _).mono ?_
    rintro e w2 ⟨⟨q, rfl⟩, d, rfl⟩
    have hzl : lo = z := by have := HZL.out; omega
    subst hzl
    have e5 : IntKind.i64.wrap (((lo % M : Nat) : Int)) = (lo : Int) % (M : Int) := by rw [Int.natCast_emod]; exact e4
    go_wp2
    go_ret
    refine ⟨congrArg Ending.returned (congrArg (Value.int IntKind.i64) ?_), d, rfl⟩
    first | rfl | (simp; done)
  · refine (Div64_c hi lo M (by have := LO.out; omega) (by omega) (by have := HH.out; have := HZL.out; omega) (by have := HP.out; have := HZL.out; omega) (by omega) _).mono ?_
    rintro e w2 ⟨⟨q, rfl⟩, d, rfl⟩
    rw [← HZL.out]
    have e5 : IntKind.i64.wrap (((z % M : Nat) : Int)) = (z : Int) % (M : Int) := by rw [Int.natCast_emod]; exact e4
    go_wp2
    go_ret
    refine ⟨congrArg Ending.returned (congrArg (Value.int IntKind.i64) ?_), d, rfl⟩
    first | rfl | (simp; done)
theorem mulB_c (m a b : Int) (w : World) (hm : 1 ≤ m) (hm' : m ≤ 1099511627776) (ha : 0 ≤ a) (hb : 0 ≤ b) (ha' : a < m) (hb' : b < m) (hh : m < 1099511627776 ∨ a * b < 18446744073709551616) :
    Calls Tryz.prog 95 #[.int .i64 m, .int .i64 a, .int .i64 b] w fun e w' => e = .returned (.int .i64 (a * b % m)) ∧ ∃ d, w' = w.drewN d := by
  by_cases h : m ≤ 3000000000
  · exact (mul_c m a b w hm h ha hb ha' hb').mono fun e w' ⟨h1, h2⟩ => ⟨h1, 0, h2.symm⟩
  · exact mulW_c m a b w (by omega) hm' ha hb ha' hb' hh
theorem mulA_c (m a b : Int) (w : World) (hm : 1 ≤ m) (hm' : m < 1099511627776) (ha : 0 ≤ a) (hb : 0 ≤ b) (ha' : a < m) (hb' : b < m) :
    Calls Tryz.prog 95 #[.int .i64 m, .int .i64 a, .int .i64 b] w fun e w' => e = .returned (.int .i64 (a * b % m)) ∧ ∃ d, w' = w.drewN d := by
  by_cases h : m ≤ 3000000000
  · exact (mul_c m a b w hm h ha hb ha' hb').mono fun e w' ⟨h1, h2⟩ => ⟨h1, 0, h2.symm⟩
  · exact mulW_c m a b w (by omega) (by omega) ha hb ha' hb' (.inl hm')

set_option maxHeartbeats 1000000 in
theorem powerA_c (m a n : Int) (k : Nat) (w : World) (hn : n = k) (hm : 1 ≤ m) (hm' : m ≤ 1099511627776) (ha : 0 ≤ a) (ha' : a < m) (hk : k ≤ 1000000000000) (hs : m < 1099511627776 ∨ (a ≤ 7 ∧ k ≤ 2)) :
    Calls Tryz.prog 96 #[.int .i64 m, .int .i64 a, .int .i64 n] w fun e w' => e = .returned (.int .i64 (a ^ k % m)) ∧ ∃ d, w' = w.drewN d := by
  subst hn
  have hm1 : (1 : Int) % m < m := Int.emod_lt_of_pos _ (by omega)
  have hm0 : 0 ≤ (1 : Int) % m := Int.emod_nonneg _ (by omega)
  have hst : m < 1099511627776 ∨ (k = 0 ∧ a ≤ 2401 ∧ 1 % m ≤ 49) ∨ (k = 1 ∧ a ≤ 49 ∧ 1 % m ≤ 1) ∨ (k = 2 ∧ a ≤ 7 ∧ 1 % m ≤ 1) := by
    rcases hs with h | ⟨h1, h2⟩
    · exact .inl h
    · have : (1 : Int) % m ≤ 1 := by
        by_cases hm2 : m = 1
        · subst hm2; decide
        · rw [Int.emod_eq_of_lt (by omega) (by omega)]; omega
      refine .inr ?_
      omega
  have HS := Lib.hid hst
  clear hst hs
  go_enter Tryz.func96, Tryz.ntmps96
  go_wp2
  go_loopw [1, 2, 7] (fun x i out wr => ∃ (y z : Int) (j : Nat) (d : Nat), x = .int .i64 y ∧ i = .int .i64 j ∧ out = .int .i64 z ∧ 0 ≤ y ∧ y < m ∧ 0 ≤ z ∧ z < m ∧ j ≤ 1000000000000 ∧ Hid (z * y ^ j % m = a ^ k % m) ∧ Hid (m < 1099511627776 ∨ (j = 0 ∧ y ≤ 2401 ∧ z ≤ 49) ∨ (j = 1 ∧ y ≤ 49 ∧ z ≤ 1) ∨ (j = 2 ∧ y ≤ 7 ∧ z ≤ 1)) ∧ wr = w.drewN d) (fun _ i _ _ => (intOf i).toNat)
  case atStart => exact ⟨a, 1 % m, k, 0, rfl, rfl, rfl, ha, ha', hm0, hm1, hk, Lib.hid (by rw [Int.mul_emod, Int.emod_emod_of_dvd _ (Int.dvd_refl m), ← Int.mul_emod, Int.one_mul]), HS, rfl⟩
  case round =>
    obtain ⟨y, z, j, d, rfl, rfl, rfl, hy, hy', hz, hz', hj, HE, HB, rfl⟩ := hrel
    have hyy := mod_lt' (a := y * y) (show 0 < m by omega)
    have hzy := mod_lt' (a := z * y) (show 0 < m by omega)
    have hyyn : 0 ≤ y * y := Int.mul_nonneg hy hy
    have hzyn : 0 ≤ z * y := Int.mul_nonneg hz hy
    by_cases h0 : 0 < j
    · have B1 : m < 1099511627776 ∨ y * y < 18446744073709551616 := by
        rcases HB.out with h | h
        · exact .inl h
        · have : y * y ≤ 49 * 49 := Int.mul_le_mul (by omega) (by omega) hy (by omega)
          exact .inr (by omega)
      have B2 : m < 1099511627776 ∨ z * y < 18446744073709551616 := by
        rcases HB.out with h | h
        · exact .inl h
        · have : z * y ≤ 1 * 49 := Int.mul_le_mul (by omega) (by omega) hy (by omega)
          exact .inr (by omega)
      have N1 : y * y % m ≤ y * y := emod_le' hyyn (by omega)
      have N2 : z * y % m ≤ z * y := emod_le' hzyn (by omega)
      have C1 : m < 1099511627776 ∨ (j = 1 ∧ y * y ≤ 2401 ∧ z * y ≤ 49) ∨ (j = 2 ∧ y * y ≤ 49 ∧ z ≤ 1) := by
        rcases HB.out with h | h | h | h
        · exact .inl h
        · omega
        · have q1 : y * y ≤ 49 * 49 := Int.mul_le_mul h.2.1 h.2.1 hy (by omega)
          have q2 : z * y ≤ 1 * 49 := Int.mul_le_mul h.2.2 h.2.1 hy (by omega)
          exact .inr (.inl ⟨h.1, by omega, by omega⟩)
        · have q1 : y * y ≤ 7 * 7 := Int.mul_le_mul h.2.1 h.2.1 hy (by omega)
          exact .inr (.inr ⟨h.1, by omega, h.2.2⟩)
      have HN1 := Lib.hid N1
      have HN2 := Lib.hid N2
      have HC1 := Lib.hid C1
      clear N1 N2 C1 hyyn hzyn
      have HB1 := Lib.hid B1
      have HB2 := Lib.hid B2
      clear B1 B2
      rcases Nat.mod_two_eq_zero_or_one j with hp | hp
      · have hb : (((j : Int) % 2) == 1) = false := by simp; omega
        have Hp := Lib.hid hp
        clear hp
        go_wp2_with fail
        refine (mulB_c m y y _ hm hm' hy hy hy' hy' HB1.out).mono ?_
        rintro e w2 ⟨rfl, d2, rfl⟩
        go_wp2
        exact ⟨⟨_, _, j / 2, d + d2, rfl, by go_num, rfl, hyy.1, hyy.2, hz, hz', by omega, Lib.hid (by rw [raise_even Hp.out]; exact HE.out), Lib.hid (by have := HC1.out; have := HN1.out; have := Hp.out; omega), by first | rfl | (simp [World.drewN_drewN]; done)⟩, by simp [intOf]; omega⟩
      · have hb : (((j : Int) % 2) == 1) = true := by simp; omega
        have Hp := Lib.hid hp
        clear hp
        go_wp2_with fail
        refine (mulB_c m z y _ hm hm' hz hy hz' hy' HB2.out).mono ?_
        rintro e w2 ⟨rfl, d2, rfl⟩
        go_wp2_with fail
        refine (mulB_c m y y _ hm hm' hy hy hy' hy' HB1.out).mono ?_
        rintro e w3 ⟨rfl, d3, rfl⟩
        go_wp2
        exact ⟨⟨_, _, j / 2, d + d2 + d3, rfl, by go_num, rfl, hyy.1, hyy.2, hzy.1, hzy.2, by omega, Lib.hid (by rw [raise_odd Hp.out]; exact HE.out), Lib.hid (by have := HC1.out; have := HN1.out; have := HN2.out; have := Hp.out; omega), by first | rfl | (simp [World.drewN_drewN]; done)⟩, by simp [intOf]; omega⟩
    · obtain rfl : j = 0 := by omega
      have he := HE.out
      rw [Int.pow_zero, Int.mul_one, Int.emod_eq_of_lt hz hz'] at he
      have He := Lib.hid he
      clear he
      go_wp2
      go_ret
      exact ⟨by rw [← He.out]; rfl, d, rfl⟩
theorem powerB_c (m a n : Int) (k : Nat) (w : World) (hn : n = k) (hm : 1 ≤ m) (hm' : m ≤ 1099511627776) (ha : 0 ≤ a) (ha' : a < m) (hk : k ≤ 1000000000000) (hs : m < 1099511627776 ∨ (a ≤ 7 ∧ k ≤ 2)) :
    Calls Tryz.prog 96 #[.int .i64 m, .int .i64 a, .int .i64 n] w fun e w' => e = .returned (.int .i64 (a ^ k % m)) ∧ Below w.heap.size w w' :=
  (powerA_c m a n k w hn hm hm' ha ha' hk hs).mono fun e w' ⟨h1, d, h2⟩ => ⟨h1, by rw [h2]; exact (by (repeat (first | exact bR _ _ | (refine bS ?_ _) | (refine bA ?_ _) | (refine bN ?_ _) | (refine bD ?_))))⟩
theorem mulC_c (m a b : Int) (w : World) (hm : 1 ≤ m) (hm' : m < 1099511627776) (ha : 0 ≤ a) (hb : 0 ≤ b) (ha' : a < m) (hb' : b < m) :
    Calls Tryz.prog 95 #[.int .i64 m, .int .i64 a, .int .i64 b] w fun e w' => e = .returned (.int .i64 (a * b % m)) ∧ Below w.heap.size w w' :=
  (mulA_c m a b w hm hm' ha hb ha' hb').mono fun e w' ⟨h1, d, h2⟩ => ⟨h1, by rw [h2]; exact (by (repeat (first | exact bR _ _ | (refine bS ?_ _) | (refine bA ?_ _) | (refine bN ?_ _) | (refine bD ?_))))⟩

end Go.Proofs.YtoednonijmkbjaaGreat
