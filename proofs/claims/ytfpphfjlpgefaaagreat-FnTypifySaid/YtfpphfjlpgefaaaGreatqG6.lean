/- Lemmas. -/
import Derived.Test.YtfpphfjlpgefaaaGreatqG3
import Derived.Lib.Strings
import Derived.Lib.Slices
import Derived.Lib.Small
import Derived.Lib.Walk
import Derived.Lib.BitFns
import Derived.Lib.Mul64
import Derived.Laws.Bits64b
set_option maxHeartbeats 8000000
set_option maxRecDepth 100000
set_option linter.unusedSimpArgs false
set_option linter.unusedVariables false
namespace Go.Proofs.YtfpphfjlpgefaaaGreat
open Go.RowKit
section

theorem qFC (a : Nat) (ha : a < 18446744073709551616) : Go.bits .and .u64 (a : Int) 4294967295 = ((a % 4294967296 : Nat) : Int) := by
 have h := Go.bits_and_u64_nat a 4294967295 ha Oo
 have e : a &&& 4294967295 = a % 4294967296 := Nat.and_two_pow_sub_one_eq_mod a 32
 rw [e] at h
 exact h
theorem w_div (a : Nat) : (a : Int) / 4294967296 = ((a / 4294967296 : Nat) : Int) := Oo
theorem qBQ (a b : Nat) : (a : Int) * (b : Int) = ((a * b : Nat) : Int) := (Int.natCast_mul a b).symm
theorem w_add (a b : Nat) : (a : Int) + (b : Int) = ((a + b : Nat) : Int) := (Int.natCast_add a b).symm
theorem qAN (a : Nat) (ha : a < 18446744073709551616) : IntKind.u64.wrap (a : Int) = (a : Int) := by rw [IntKind.wrap_u64]; omega
theorem qCJ (a : Nat) : IntKind.u64.wrap (a : Int) = ((a % 18446744073709551616 : Nat) : Int) := by rw [IntKind.wrap_u64]; omega

theorem qMg (x y : Nat) (hx : x < 18446744073709551616) (hy : y < 18446744073709551616) (w : World) :
  Calls Tryz.prog 190 #[.int .u64 x, .int .u64 y] w fun e w' => e = .returned (.tuple #[.int .u64 ((x * y / 18446744073709551616 : Nat) : Int), .int .u64 ((x * y % 18446744073709551616 : Nat) : Int)]) ∧ w = w' := by
 obtain ⟨bd, bt, bw, hhi⟩ := Go.Lib.mul64_hi x y hx hy
 have ba := Go.Lib.half_mul_le (a := x / 4294967296) (b := y / 4294967296) Oo Oo
 have bb := Go.Lib.half_mul_le (a := x / 4294967296) (b := y % 4294967296) Oo Oo
 have bc := Go.Lib.half_mul_le (a := x % 4294967296) (b := y / 4294967296) Oo Oo
 have ba' : x / 4294967296 * (y / 4294967296) < 18446744073709551616 := Oo
 have bb' : x / 4294967296 * (y % 4294967296) < 18446744073709551616 := Oo
 have bc' : x % 4294967296 * (y / 4294967296) < 18446744073709551616 := Oo
 have bh1 : x / 4294967296 * (y / 4294967296) + (x / 4294967296 * (y % 4294967296) + x % 4294967296 * (y % 4294967296) / 4294967296) / 4294967296 < 18446744073709551616 := Oo
 have bh : x / 4294967296 * (y / 4294967296) + (x / 4294967296 * (y % 4294967296) + x % 4294967296 * (y % 4294967296) / 4294967296) / 4294967296 + ((x / 4294967296 * (y % 4294967296) + x % 4294967296 * (y % 4294967296) / 4294967296) % 4294967296 + x % 4294967296 * (y / 4294967296)) / 4294967296 < 18446744073709551616 := Oo
 go_enter Tryz.func190, Tryz.ntmps190
 go_wp2
 simp only [qFC x hx, qFC y hy, w_div, qBQ, w_add, qAN _ bd, qAN _ bb', qAN _ bt, qFC _ bt, qAN _ bc', qAN _ bw, qAN _ ba', qAN _ bh1, qAN _ bh, qCJ (x * y)]
 rw [hhi]
 go_ret2
 exact ⟨rfl, rfl⟩

theorem qOm : ∀ b : Fin 256, 1 ≤ b.val → ∃ k : Nat, Go.Lib.len8 (b.val : Int) = (k : Int) ∧ 1 ≤ k ∧ k ≤ 8 ∧ 2 ^ (k - 1) ≤ b.val ∧ b.val < 2 ^ k := by
 intro b hb
 have h : ∀ b : Fin 256, 1 ≤ b.val → (Go.Lib.len8 (b.val : Int) = ((Go.Lib.len8 (b.val : Int)).toNat : Int) ∧ 1 ≤ (Go.Lib.len8 (b.val : Int)).toNat ∧ (Go.Lib.len8 (b.val : Int)).toNat ≤ 8 ∧ 2 ^ ((Go.Lib.len8 (b.val : Int)).toNat - 1) ≤ b.val ∧ b.val < 2 ^ (Go.Lib.len8 (b.val : Int)).toNat) := by decide +kernel
 exact ⟨_, h b hb⟩
theorem qJ7 (q : Int) (h1 : 1 ≤ q) (h2 : q < 256) : ∃ k : Nat, Go.Lib.len8 q = (k : Int) ∧ 1 ≤ k ∧ k ≤ 8 ∧ (2 : Int) ^ (k - 1) ≤ q ∧ q < (2 : Int) ^ k := by
 obtain ⟨b, rfl⟩ : ∃ b : Nat, q = b := ⟨q.toNat, Oo⟩
 obtain ⟨k, a, b1, c, d, e⟩ := qOm ⟨b, Oo⟩ (by show 1 ≤ b; omega)
 refine ⟨k, a, b1, c, ?_, ?_⟩
 ·have : ((2 ^ (k - 1) : Nat) : Int) ≤ (b : Int) := Int.ofNat_le.2 d; simpa using this
 ·have : (b : Int) < ((2 ^ k : Nat) : Int) := Int.ofNat_lt.2 e; simpa using this
theorem qK_ (y : Int) (h : y.toNat < Go.Lib.len8tab.size) : ((Go.Lib.len8tab[y.toNat]'h).toNat : Int) = Go.Lib.len8 y := by
 unfold Go.Lib.len8
 rw [getElem?_pos Go.Lib.len8tab y.toNat h]
 rfl

theorem qN2 (x : Int) (w : World) (h0 : 2147483648 ≤ x) (h1 : x < 1099511627776) :
  Calls Tryz.prog 209 #[.int .u64 x] w fun e w' => ∃ k : Nat, e = .returned (.int .i64 k) ∧ w = w' ∧ 32 ≤ k ∧ k ≤ 40 ∧ (2 : Int) ^ (k - 1) ≤ x ∧ x < (2 : Int) ^ k := by
 by_cases hx : 4294967296 ≤ x
 ·obtain ⟨q, hq⟩ : ∃ q, q = x / 4294967296 := ⟨_, rfl⟩; have hq1 : 1 ≤ q := Oo; have hq2 : q < 256 := Oo; have a1 : ¬ 65536 ≤ q := Oo; have a2 : ¬ 256 ≤ q := Oo; have a3 : 0 ≤ q := Oo; have a4 : q < (Go.Lib.len8tab.size : Int) := by rw [Go.Lib.len8tab_size]; omega
  obtain ⟨k, hk, k1, k2, k3, k4⟩ := qJ7 q hq1 hq2; have e1 := hq.symm
  have K := dd (show (2 : Int) ^ (32 + k - 1) ≤ x ∧ x < (2 : Int) ^ (32 + k) by
   rw [show 32 + k - 1 = (k - 1) + 32 by omega, Nat.add_comm 32 k, Int.pow_add, Int.pow_add]; have : (2 : Int) ^ 32 = 4294967296 := by decide
   omega)
  have hk2 := dd k2; have hk1 := dd k1; clear k1 k2 k3 k4 h0 h1 hq1 hq2 hq
  go_enter Tryz.func209, Tryz.ntmps209
  go_wp2; go_ret; refine ⟨32 + k, congrArg Ending.returned (congrArg (Value.int IntKind.i64) ?_), rfl, by have := hk1.out; omega, by have := hk2.out; omega, K.out.1, K.out.2⟩; rw [qK_, hk]; have := hk2.out; unfold Go.RowKit.wrap64; omega
 ·obtain ⟨q1, hq1⟩ : ∃ q, q = x / 65536 := ⟨_, rfl⟩; obtain ⟨q, hq⟩ : ∃ q, q = q1 / 256 := ⟨_, rfl⟩; have b1 : 65536 ≤ x := Oo; have b2 : 256 ≤ q1 := Oo; have hq1' : 1 ≤ q := Oo; have hq2 : q < 256 := Oo; have a3 : 0 ≤ q := Oo; have a4 : q < (Go.Lib.len8tab.size : Int) := by rw [Go.Lib.len8tab_size]; omega
  obtain ⟨k, hk, k1, k2, k3, k4⟩ := qJ7 q hq1' hq2
  have k8 : k = 8 := by
   have : k = 1 ∨ k = 2 ∨ k = 3 ∨ k = 4 ∨ k = 5 ∨ k = 6 ∨ k = 7 ∨ k = 8 := Oo; rcases this with h | h | h | h | h | h | h | h
   all_goals (subst h; first | rfl | (exfalso; simp at k4; omega))
  subst k8; have e1 := hq1.symm; have e2 := hq.symm; have K := dd (show (2147483648 : Int) ≤ x ∧ x < 4294967296 by omega); clear k1 k2 k3 k4 h0 h1 hq1' hq2 hq hq1
  go_enter Tryz.func209, Tryz.ntmps209
  go_wp2; go_ret; refine ⟨32, congrArg Ending.returned (congrArg (Value.int IntKind.i64) ?_), rfl, Oo, Oo, by have := K.out.1; simpa using this, by have := K.out.2; simpa using this⟩; rw [qK_, hk]; unfold Go.RowKit.wrap64; omega

theorem qOA (x : Int) (w : World) (h0 : 2147483648 ≤ x) (h1 : x < 1099511627776) :
  Calls Tryz.prog 204 #[.int .u64 x] w fun e w' => ∃ k : Nat, e = .returned (.int .i64 (64 - (k : Int))) ∧ w = w' ∧ 32 ≤ k ∧ k ≤ 40 ∧ (2 : Int) ^ (k - 1) ≤ x ∧ x < (2 : Int) ^ k := by
 go_enter Tryz.func204, Tryz.ntmps204
 go_wp2_with fail
 refine (qN2 x _ h0 h1).mono ?_
 rintro e w' ⟨k, rfl, rfl, k1, k2, k3⟩
 have e1 : IntKind.i64.wrap (64 - (k : Int)) = 64 - (k : Int) := IntWalk.i64_in _ Oo
 have K3 := dd k3
 have K1 := dd k1
 have K2 := dd k2
 clear k1 k2 k3
 go_wp2
 go_ret
 exact ⟨k, rfl, rfl, K1.out, K2.out, K3.out⟩
end
section

theorem kn_lt {y1 y0 u v : Nat} (hv : v < 4294967296) (hu : u < y1 * 4294967296 + y0) : (u * 4294967296 + v) / (y1 * 4294967296 + y0) < 4294967296 := by
 refine (Nat.div_lt_iff_lt_mul Oo).2 ?_
 have : (u + 1) * 4294967296 ≤ (y1 * 4294967296 + y0) * 4294967296 := Nat.mul_le_mul_right _ hu
 omega
theorem qGt {y1 y0 u v : Nat} (h1 : 0 < y1) (hv : v < 4294967296) : (u * 4294967296 + v) / (y1 * 4294967296 + y0) ≤ u / y1 := by
 refine (Nat.le_div_iff_mul_le h1).2 ?_
 have h := Nat.div_mul_le_self (u * 4294967296 + v) (y1 * 4294967296 + y0)
 generalize (u * 4294967296 + v) / (y1 * 4294967296 + y0) = q at h
 have e : q * (y1 * 4294967296 + y0) = q * y1 * 4294967296 + q * y0 := by rw [Nat.mul_add, Nat.mul_assoc]
 rw [e] at h
 generalize q * y1 = a at h ⊢
 generalize q * y0 = b at h
 omega
theorem qGX {y1 y0 u v q r : Nat} (hy : 0 < y1) (hv : v < 4294967296) (hu : u < y1 * 4294967296 + y0) (he : u = q * y1 + r) (hc : 4294967296 ≤ q ∨ 4294967296 * r + v < q * y0) : (u * 4294967296 + v) / (y1 * 4294967296 + y0) < q := by
 rcases hc with h | h
 ·exact Nat.lt_of_lt_of_le (kn_lt hv hu) h
 ·refine (Nat.div_lt_iff_lt_mul Oo).2 ?_; have e : q * (y1 * 4294967296 + y0) = q * y1 * 4294967296 + q * y0 := by rw [Nat.mul_add, Nat.mul_assoc]
  rw [e]; generalize q * y1 = a at he ⊢; generalize q * y0 = b at h ⊢; omega
theorem qFJ {y1 y0 u v q r : Nat} (hy : 0 < y1) (he : u = q * y1 + r) (hq : (u * 4294967296 + v) / (y1 * 4294967296 + y0) ≤ q) (hc : q * y0 ≤ 4294967296 * r + v) : q = (u * 4294967296 + v) / (y1 * 4294967296 + y0) := by
 refine Nat.le_antisymm ((Nat.le_div_iff_mul_le Oo).2 ?_) hq
 have e : q * (y1 * 4294967296 + y0) = q * y1 * 4294967296 + q * y0 := by rw [Nat.mul_add, Nat.mul_assoc]
 rw [e]
 generalize q * y1 = a at he ⊢
 generalize q * y0 = b at hc ⊢
 omega
theorem qG5 {y1 y0 u v q r : Nat} (hy : 0 < y1) (h0 : y0 < 4294967296) (hu : u < y1 * 4294967296 + y0) (he : u = q * y1 + r) (hq : (u * 4294967296 + v) / (y1 * 4294967296 + y0) ≤ q) (hr : 4294967296 ≤ r) : q = (u * 4294967296 + v) / (y1 * 4294967296 + y0) := by
 refine qFJ hy he hq ?_
 have hqB : q < 4294967296 := by
  have : q * y1 < 4294967296 * y1 := by
   generalize q * y1 = a at he; omega
  exact Nat.lt_of_mul_lt_mul_right this
 have : q * y0 ≤ 4294967296 * 4294967296 := Nat.mul_le_mul Oo Oo
 omega
theorem qCh {u v y q : Nat} (hy : 0 < y) (h : q = (u * 4294967296 + v) / y) : ((u * 4294967296 + v : Nat) : Int) - ((q * y : Nat) : Int) = (((u * 4294967296 + v) % y : Nat) : Int) := by
 have := Nat.div_add_mod (u * 4294967296 + v) y
 rw [h, Nat.mul_comm ((u * 4294967296 + v) / y) y]
 omega
theorem qQm (B U l1 l0 Y : Nat) : ((U * B + l1) % Y * B + l0) % Y = (U * (B * B) + (l1 * B + l0)) % Y := by
 have h := Nat.div_add_mod (U * B + l1) Y
 have e : U * (B * B) + (l1 * B + l0) = Y * ((U * B + l1) / Y * B) + ((U * B + l1) % Y * B + l0) := by
  rw [← Nat.mul_assoc Y, ← Nat.add_assoc (Y * _ * B), ← Nat.add_mul, h, Nat.add_mul, Nat.mul_assoc, Nat.add_assoc]
 rw [e, Nat.mul_add_mod]
theorem qDW (U l1 l0 Y : Nat) : ((U * 4294967296 + l1) % Y * 4294967296 + l0) % Y = (U * 18446744073709551616 + (l1 * 4294967296 + l0)) % Y := qQm 4294967296 U l1 l0 Y
theorem qPx {hi lo y k s : Nat} (hs : k + s = 64) (h1 : lo < 18446744073709551616) (hh : hi < y) (hy : y < 2 ^ k) :
  ∃ U L, hi * 2 ^ s < 18446744073709551616 ∧ (hi * 2 ^ s) ||| (lo / 2 ^ k) = U ∧ U < 18446744073709551616 ∧ U < y * 2 ^ s ∧ lo * 2 ^ s % 18446744073709551616 = L ∧ (hi * 18446744073709551616 + lo) * 2 ^ s = U * 18446744073709551616 + L := by
 have e64 : 2 ^ k * 2 ^ s = 18446744073709551616 := by rw [← Nat.pow_add, hs]
 have hS : 0 < 2 ^ s := Nat.two_pow_pos s
 have hK : 0 < 2 ^ k := Nat.two_pow_pos k
 have hlk : lo / 2 ^ k < 2 ^ s := by
  refine (Nat.div_lt_iff_lt_mul hK).2 ?_; rw [Nat.mul_comm, e64]; exact h1
 have hor : (hi * 2 ^ s) ||| (lo / 2 ^ k) = hi * 2 ^ s + lo / 2 ^ k := by
  rw [Nat.mul_comm hi, Nat.two_pow_add_eq_or_of_lt hlk]
 have hU : hi * 2 ^ s + lo / 2 ^ k < y * 2 ^ s := by
  have : (hi + 1) * 2 ^ s ≤ y * 2 ^ s := Nat.mul_le_mul_right _ hh; rw [Nat.add_mul] at this; omega
 have hY : y * 2 ^ s < 18446744073709551616 := by rw [← e64]; exact (Nat.mul_lt_mul_right hS).2 hy
 have hlo : lo * 2 ^ s = (lo / 2 ^ k) * 18446744073709551616 + lo % 2 ^ k * 2 ^ s := by
  conv => lhs; rw [← Nat.div_add_mod' lo (2 ^ k), Nat.add_mul, Nat.mul_assoc, e64]
 have hm : lo % 2 ^ k * 2 ^ s < 18446744073709551616 := by
  rw [← e64]; exact (Nat.mul_lt_mul_right hS).2 (Nat.mod_lt _ hK)
 refine ⟨_, _, Oo, rfl, by rw [hor]; omega, by rw [hor]; exact hU, rfl, ?_⟩
 rw [hor, hlo, Nat.add_mul, Nat.add_mul, show hi * 18446744073709551616 * 2 ^ s = hi * 2 ^ s * 18446744073709551616 by rw [Nat.mul_assoc, Nat.mul_comm 18446744073709551616, ← Nat.mul_assoc], hlo]
 omega

theorem qQR (lo y : Nat) (h1 : lo < 18446744073709551616) (h2 : y < 18446744073709551616) (hy : 0 < y) (w : World) :
  Calls Tryz.prog 191 #[.int .u64 0, .int .u64 lo, .int .u64 y] w fun e w' => (∃ q : Int, e = .returned (.tuple #[.int .u64 q, .int .u64 ((lo % y : Nat) : Int)])) ∧ ∃ d, w' = w.drewN d := by
 have y0 : ((y : Int) == 0) = false := by simp; omega
 have y1 : ¬ (y : Int) = 0 := Oo
 have y2 : ¬ (y : Int) ≤ 0 := Oo
 have y3 : ¬ y = 0 := Oo
 go_enter Tryz.func191, Tryz.ntmps191
 go_wp2
 go_quiet (fail)
 go_wp2
 go_ret2
 refine ⟨⟨_, congrArg Ending.returned (by rw [← Int.natCast_emod]; rfl)⟩, _, rfl⟩
theorem qM0 (hi lo y : Nat) (h1 : lo < 18446744073709551616) (h2 : 2147483648 ≤ y) (h3 : y < 1099511627776) (hh : hi < y) (h0 : 0 < hi) (w : World) :
  Calls Tryz.prog 191 #[.int .u64 hi, .int .u64 lo, .int .u64 y] w fun e w' => (∃ q : Int, e = .returned (.tuple #[.int .u64 q, .int .u64 (((hi * 18446744073709551616 + lo) % y : Nat) : Int)])) ∧ ∃ d, w' = w.drewN d := by
 have y0 : ((y : Int) == 0) = false := by simp; omega
 have y1 : ¬ (y : Int) = 0 := Oo
 have y2 : ¬ (y : Int) ≤ (hi : Int) := Oo
 have y4 : ((hi : Int) == 0) = false := by simp; omega
 have y5 : ¬ (hi : Int) = 0 := Oo
 have y3 : ¬ y = 0 := Oo
 go_enter Tryz.func191, Tryz.ntmps191
 go_wp2_with fail
 refine (qOA y _ Oo Oo).mono ?_
 rintro e w' ⟨k, rfl, rfl, k1, k2, k3⟩
 have K3 := dd k3
 have K1 := dd k1
 have K2 := dd k2
 obtain ⟨s, hs⟩ : ∃ s, k + s = 64 := ⟨64 - k, Oo⟩
 have k2' : y < 2 ^ k := by
  have : (y : Int) < ((2 ^ k : Nat) : Int) := by simpa using k3.2
  omega
 have k1' : 2 ^ (k - 1) ≤ y := by
  have : ((2 ^ (k - 1) : Nat) : Int) ≤ (y : Int) := by simpa using k3.1
  omega
 obtain ⟨U, L, u1, u2, u3, u4, u5, u6⟩ := qPx hs h1 hh k2'
 obtain ⟨Y, hY⟩ : ∃ Y, Y = y * 2 ^ s := ⟨_, rfl⟩
 have e64 : 2 ^ k * 2 ^ s = 18446744073709551616 := by rw [← Nat.pow_add, hs]
 have Y1 : Y < 18446744073709551616 := by rw [hY, ← e64]; exact (Nat.mul_lt_mul_right (Nat.two_pow_pos s)).2 k2'
 have Y2 : 9223372036854775808 ≤ Y := by
  have : 2 ^ (k - 1) * 2 ^ s ≤ y * 2 ^ s := Nat.mul_le_mul_right _ k1'; rw [← Nat.pow_add, show k - 1 + s = 63 by omega, ← hY] at this; omega
 rw [← hY] at u4
 have HR := dd (show ((U * 18446744073709551616 + L) % Y) / 2 ^ s = (hi * 18446744073709551616 + lo) % y by
  rw [← u6, hY, Nat.mul_mod_mul_right, Nat.mul_div_cancel _ (Nat.two_pow_pos s)])
 have eY : IntKind.u64.wrap ((y : Int) * 2 ^ s) = (Y : Int) := by
  rw [show ((y : Int) * 2 ^ s) = ((Y : Nat) : Int) by rw [hY]; simp]; exact qAN _ Y1
 obtain ⟨H, hH⟩ : ∃ H, H = hi * 2 ^ s := ⟨_, rfl⟩
 obtain ⟨K, hK⟩ : ∃ K, K = lo / 2 ^ k := ⟨_, rfl⟩
 rw [← hH] at u1
 rw [← hH, ← hK] at u2
 have eH : IntKind.u64.wrap ((hi : Int) * 2 ^ s) = (H : Int) := by
  rw [show ((hi : Int) * 2 ^ s) = ((H : Nat) : Int) by rw [hH]; simp]; exact qAN _ u1
 have eU : Go.bits .or .u64 (H : Int) (K : Int) = (U : Int) := by
  rw [Go.bits_or_u64_nat _ _ u1 (by rw [hK]; exact Nat.lt_of_le_of_lt (Nat.div_le_self _ _) h1), u2]
 have eK : (lo : Int) / 2 ^ k = (K : Int) := by rw [hK]; simp
 have eL : IntKind.u64.wrap ((lo : Int) * 2 ^ s) = (L : Int) := by
  rw [show ((lo : Int) * 2 ^ s) = ((lo * 2 ^ s : Nat) : Int) by simp, qCJ, u5]
 have hLl : L < 18446744073709551616 := by rw [← u5]; exact Nat.mod_lt _ (by decide)
 obtain ⟨a1, ha1⟩ : ∃ a, a = Y / 4294967296 := ⟨_, rfl⟩
 obtain ⟨a0, ha0⟩ : ∃ a, a = Y % 4294967296 := ⟨_, rfl⟩
 obtain ⟨l1, hl1⟩ : ∃ a, a = L / 4294967296 := ⟨_, rfl⟩
 obtain ⟨l0, hl0⟩ : ∃ a, a = L % 4294967296 := ⟨_, rfl⟩
 have eY1 : (Y : Int) / 4294967296 = (a1 : Int) := Oo
 have eY0 : Go.bits .and .u64 (Y : Int) 4294967295 = (a0 : Int) := by rw [qFC Y Y1, ha0]
 have eL1 : (L : Int) / 4294967296 = (l1 : Int) := Oo
 have eL0 : Go.bits .and .u64 (L : Int) 4294967295 = (l0 : Int) := by rw [qFC L hLl, hl0]
 have hYe : Y = a1 * 4294967296 + a0 := Oo
 have hLe : L = l1 * 4294967296 + l0 := Oo
 have p1 : 2147483648 ≤ a1 := Oo
 have p2 : a1 < 4294967296 := Oo
 have p3 : a0 < 4294967296 := Oo
 have p4 : l1 < 4294967296 := Oo
 have p5 : l0 < 4294967296 := Oo
 have z1 : ((a1 : Int) == 0) = false := by simp; omega
 have z2 : ¬ (a1 : Int) = 0 := Oo
 have z3 : ¬ a1 = 0 := Oo
 obtain ⟨q, hq⟩ : ∃ q, q = U / a1 := ⟨_, rfl⟩
 obtain ⟨r, hr⟩ : ∃ r, r = U % a1 := ⟨_, rfl⟩
 have hUe : U = q * a1 + r := by rw [hq, hr, Nat.mul_comm]; exact (Nat.div_add_mod U a1).symm
 have hrl : r < a1 := by rw [hr]; exact Nat.mod_lt _ Oo
 have hql : q < 17179869184 := by
  rw [hq]; exact (Nat.div_lt_iff_lt_mul Oo).2 Oo
 have eq0 : (U : Int) / (a1 : Int) = (q : Int) := by rw [hq]; simp
 have eqw : IntKind.u64.wrap (q : Int) = (q : Int) := qAN q Oo
 have hqa : q * a1 ≤ U := Oo
 obtain ⟨qa, hqa'⟩ : ∃ x, x = q * a1 := ⟨_, rfl⟩
 have eqm : IntKind.u64.wrap ((q : Int) * (a1 : Int)) = (qa : Int) := by rw [qBQ, hqa']; exact qAN _ Oo
 have er : IntKind.u64.wrap ((U : Int) - (qa : Int)) = (r : Int) := by
  rw [show (U : Int) - (qa : Int) = (r : Int) by omega]; exact qAN _ Oo
 have es : (64 : Int) - (k : Int) = (s : Int) := Oo
 have es2 : (64 : Int) - (s : Int) = (k : Int) := Oo
 have es3 : IntKind.u64.wrap (s : Int) = (s : Int) := qAN _ Oo
 have es4 : IntKind.u64.wrap (k : Int) = (k : Int) := qAN _ Oo
 have i1 : (s : Int) < 64 := Oo
 have i2 : (k : Int) < 64 := Oo
 have i3 : ¬ (64 : Int) ≤ (s : Int) := Oo
 have i4 : ¬ (64 : Int) ≤ (k : Int) := Oo
 have hT := qGt (y1 := a1) (y0 := a0) (u := U) (v := l1) Oo p4
 rw [← hq] at hT
 have HT := dd hT
 have HQ := dd hql
 have HUe := dd hUe
 have HYe := dd hYe
 have HLe := dd hLe
 have HU4 := dd u4
 have HU3 := dd u3
 have HY1 := dd Y1
 have HRL := dd hrl
 clear hH hK hqa' k1 k2 k3 k2' k1' u1 u2 u3 u4 u5 u6 hY e64 Y1 Y2 hLl ha1 ha0 hl1 hl0 hYe hLe hq hr hUe hrl hql hqa hT h0 h1 h2 h3 hh
 have HT1 := dd (show (U * 4294967296 + l1) / Y ≤ q by have := HT.out; rwa [← HYe.out] at this)
 have HT1 := dd (show (U * 4294967296 + l1) / Y ≤ q by have := HT.out; rwa [← HYe.out] at this)
 have HT1 := dd (show (U * 4294967296 + l1) / Y ≤ q by have := HT.out; rwa [← HYe.out] at this)
 have HT1 := dd (show (U * 4294967296 + l1) / Y ≤ q by have := HT.out; rwa [← HYe.out] at this)
 have HT1 := dd (show (U * 4294967296 + l1) / Y ≤ q by have := HT.out; rwa [← HYe.out] at this)
 have HT1 := dd (show (U * 4294967296 + l1) / Y ≤ q by have := HT.out; rwa [← HYe.out] at this)
 have HT1 := dd (show (U * 4294967296 + l1) / Y ≤ q by have := HT.out; rwa [← HYe.out] at this)
 have HT1 := dd (show (U * 4294967296 + l1) / Y ≤ q by have := HT.out; rwa [← HYe.out] at this)
 go_wp2_with fail
 go_loopw [15, 16] (fun sq sr wr => ∃ q r : Nat, sq = .int .u64 (q : Int) ∧ sr = .int .u64 (r : Int) ∧ q < 17179869184 ∧ r < 4294967296 ∧ Hid (U = q * a1 + r ∧ (U * 4294967296 + l1) / Y ≤ q) ∧ w = wr) (fun i _ _ => (intOf i).toNat)
 case atStart => exact ⟨q, r, rfl, rfl, HQ.out, Nat.lt_trans HRL.out p2, dd ⟨HUe.out, HT1.out⟩, rfl⟩
 case round =>
  obtain ⟨q, r, rfl, rfl, hq, hr, HI, rfl⟩ := hrel; have hI := HI.out; have hyp := HYe.out; obtain ⟨qb, hqb⟩ : ∃ x, x = q * a0 := ⟨_, rfl⟩; have c0 : q < 4294967296 → IntKind.u64.wrap ((q : Int) * (a0 : Int)) = (qb : Int) := fun h => by rw [qBQ, ← hqb]; exact qAN _ (by rw [hqb]; exact Nat.lt_of_le_of_lt (Nat.mul_le_mul (show q ≤ 4294967295 by omega) (show a0 ≤ 4294967295 by omega)) (by decide))
  obtain ⟨rb, hrb⟩ : ∃ x, x = 4294967296 * r := ⟨_, rfl⟩; have c1 : IntKind.u64.wrap (4294967296 * (r : Int)) = (rb : Int) := by rw [show 4294967296 * (r : Int) = (rb : Int) by omega]; exact qAN _ Oo
  obtain ⟨rv, hrv⟩ : ∃ x, x = rb + l1 := ⟨_, rfl⟩; have c2 : IntKind.u64.wrap ((rb : Int) + (l1 : Int)) = (rv : Int) := by rw [show (rb : Int) + (l1 : Int) = (rv : Int) by omega]; exact qAN _ Oo
  obtain ⟨r', hr'⟩ : ∃ x, x = r + a1 := ⟨_, rfl⟩; have d2 : IntKind.u64.wrap ((r : Int) + (a1 : Int)) = (r' : Int) := by rw [show (r : Int) + (a1 : Int) = (r' : Int) by omega]; exact qAN _ Oo
  have hu : U < a1 * 4294967296 + a0 := by rw [← hyp]; exact HU4.out
  have hpos : 0 < a1 := Oo
  by_cases hc : 4294967296 ≤ q ∨ rv < qb
  ·have hst := qGX hpos p4 hu hI.1 (by rcases hc with h | h; exact .inl h; exact .inr (by rw [← hqb, ← hrb, ← hrv]; exact h)); rw [← hyp] at hst; have hq1 : 1 ≤ q := Nat.lt_of_le_of_lt (Nat.zero_le _) hst; obtain ⟨q', rfl⟩ : ∃ q', q = q' + 1 := ⟨q - 1, Oo⟩; have d1' : IntKind.u64.wrap (((q' + 1 : Nat) : Int) - 1) = (q' : Int) := by rw [show ((q' + 1 : Nat) : Int) - 1 = (q' : Int) by omega]; exact qAN _ Oo
   have hI2 : U = q' * a1 + r' := by have h := hI.1; rw [Nat.add_mul, Nat.one_mul] at h; omega
   obtain ⟨qn, hqn⟩ : ∃ x, x = q' + 1 := ⟨_, rfl⟩; rw [← hqn] at d1' c0 hc; have HI2 := dd hI2; have HST := dd (show (U * 4294967296 + l1) / Y ≤ q' from Nat.le_of_lt_succ hst); have HQ' := dd (show q' < 17179869184 by omega); have HQN := dd hqn; rw [← hqn]; have HQb := dd (show qb ≤ 18446744073709551615 → True from fun _ => trivial); clear hI HI hst hI2 hr' hrb hrv hqb hu hq hr hqn
   by_cases hb : 4294967296 ≤ r'
   ·have hbr := qG5 (v := l1) hpos p3 (by rw [← hyp]; exact HU4.out) HI2.out (by rw [← hyp]; exact HST.out) hb; rw [← hyp] at hbr; have HB := dd hbr; have b1 : (4294967296 : Int) ≤ (r' : Int) := Oo; clear hbr hyp hb
    by_cases g0 : 4294967296 ≤ qn
    ·have g1 : (4294967296 : Int) ≤ (qn : Int) := Oo; clear hc c0 g0; have HYp := dd (show 0 < Y by have := HYe.out; omega); have hR := qCh (u := U) (v := l1) HYp.out HB.out; obtain ⟨R, hRe⟩ : ∃ x, x = (U * 4294967296 + l1) % Y := ⟨_, rfl⟩; rw [← hRe] at hR; have hRY : R < Y := by rw [hRe]; exact Nat.mod_lt _ HYp.out
     have hY1 := HY1.out; have hU3 := HU3.out; obtain ⟨z, hz⟩ : ∃ z, z = q' * Y := ⟨_, rfl⟩; rw [← hz] at hR; obtain ⟨x1, hx1⟩ : ∃ x, x = U * 4294967296 % 18446744073709551616 := ⟨_, rfl⟩; obtain ⟨x2, hx2⟩ : ∃ x, x = (x1 + l1) % 18446744073709551616 := ⟨_, rfl⟩; obtain ⟨x3, hx3⟩ : ∃ x, x = z % 18446744073709551616 := ⟨_, rfl⟩; have f1 : IntKind.u64.wrap ((U : Int) * 4294967296) = (x1 : Int) := by rw [IntKind.wrap_u64]; omega
     have f2 : IntKind.u64.wrap ((x1 : Int) + (l1 : Int)) = (x2 : Int) := by rw [IntKind.wrap_u64]; omega
     have f3 : IntKind.u64.wrap ((q' : Int) * (Y : Int)) = (x3 : Int) := by rw [qBQ, ← hz, qCJ, hx3]
     have f4 : IntKind.u64.wrap ((x2 : Int) - (x3 : Int)) = (R : Int) := by rw [IntKind.wrap_u64]; omega
     have HRe := dd hRe; have HRY := dd hRY; obtain ⟨q0, hq0⟩ : ∃ q, q = R / a1 := ⟨_, rfl⟩; obtain ⟨r0, hr0⟩ : ∃ r, r = R % a1 := ⟨_, rfl⟩; have hUe2 : R = q0 * a1 + r0 := by rw [hq0, hr0, Nat.mul_comm]; exact (Nat.div_add_mod R a1).symm
     have hrl2 : r0 < a1 := by rw [hr0]; exact Nat.mod_lt _ Oo
     have hql2 : q0 < 17179869184 := by
      rw [hq0]; exact (Nat.div_lt_iff_lt_mul Oo).2 Oo
     have eq02 : (R : Int) / (a1 : Int) = (q0 : Int) := by rw [hq0]; simp
     have eqw2 : IntKind.u64.wrap (q0 : Int) = (q0 : Int) := qAN q0 Oo; have hqa2 : q0 * a1 ≤ R := Oo; obtain ⟨qa2, hqa2'⟩ : ∃ x, x = q0 * a1 := ⟨_, rfl⟩; have eqm2 : IntKind.u64.wrap ((q0 : Int) * (a1 : Int)) = (qa2 : Int) := by rw [qBQ, hqa2']; exact qAN _ Oo
     have er2 : IntKind.u64.wrap ((R : Int) - (qa2 : Int)) = (r0 : Int) := by
      rw [show (R : Int) - (qa2 : Int) = (r0 : Int) by omega]; exact qAN _ Oo
     have HT2 := dd (show (R * 4294967296 + l0) / Y ≤ q0 by
      have := qGt (y1 := a1) (y0 := a0) (u := R) (v := l0) Oo p5; rw [← hq0, ← HYe.out] at this; exact this)
     have HQ2 := dd hql2; have HRL2 := dd hrl2; have HUe2 := dd hUe2; clear hR hRe hRY hY1 hU3 hz hx1 hx2 hx3 hq0 hr0 hUe2 hrl2 hql2 hqa2 hqa2' HB
     go_wp2_with fail
     (try clear c0)
     (try clear d1')
     (try clear g1)
     (try clear g2)
     (try clear b1)
     clear c1 c2 d2 f1 f2 f3 f4 eq02 eqm2 er2 eq0 eqm er eqw eqw2
     go_loopw [16, 18] (fun sr sq wr => ∃ q r : Nat, sq = .int .u64 (q : Int) ∧ sr = .int .u64 (r : Int) ∧ q < 17179869184 ∧ r < 4294967296 ∧ Hid (R = q * a1 + r ∧ (R * 4294967296 + l0) / Y ≤ q) ∧ w = wr) (fun _ i _ => (intOf i).toNat)
     case atStart => exact ⟨q0, r0, rfl, rfl, HQ2.out, Nat.lt_trans HRL2.out p2, dd ⟨HUe2.out, HT2.out⟩, rfl⟩
     case round =>
      obtain ⟨q, r, rfl, rfl, hq, hr, HI, rfl⟩ := hrel; have hI := HI.out; have hyp := HYe.out; obtain ⟨qb, hqb⟩ : ∃ x, x = q * a0 := ⟨_, rfl⟩; have c0 : q < 4294967296 → IntKind.u64.wrap ((q : Int) * (a0 : Int)) = (qb : Int) := fun h => by rw [qBQ, ← hqb]; exact qAN _ (by rw [hqb]; exact Nat.lt_of_le_of_lt (Nat.mul_le_mul (show q ≤ 4294967295 by omega) (show a0 ≤ 4294967295 by omega)) (by decide))
      obtain ⟨rb, hrb⟩ : ∃ x, x = 4294967296 * r := ⟨_, rfl⟩; have c1 : IntKind.u64.wrap (4294967296 * (r : Int)) = (rb : Int) := by rw [show 4294967296 * (r : Int) = (rb : Int) by omega]; exact qAN _ Oo
      obtain ⟨rv, hrv⟩ : ∃ x, x = rb + l0 := ⟨_, rfl⟩; have c2 : IntKind.u64.wrap ((rb : Int) + (l0 : Int)) = (rv : Int) := by rw [show (rb : Int) + (l0 : Int) = (rv : Int) by omega]; exact qAN _ Oo
      obtain ⟨r', hr'⟩ : ∃ x, x = r + a1 := ⟨_, rfl⟩; have d2 : IntKind.u64.wrap ((r : Int) + (a1 : Int)) = (r' : Int) := by rw [show (r : Int) + (a1 : Int) = (r' : Int) by omega]; exact qAN _ Oo
      have hu : R < a1 * 4294967296 + a0 := by rw [← hyp]; exact HRY.out
      have hpos : 0 < a1 := Oo
      by_cases hc : 4294967296 ≤ q ∨ rv < qb
      ·have hst := qGX hpos p5 hu hI.1 (by rcases hc with h | h; exact .inl h; exact .inr (by rw [← hqb, ← hrb, ← hrv]; exact h)); rw [← hyp] at hst; have hq1 : 1 ≤ q := Nat.lt_of_le_of_lt (Nat.zero_le _) hst; obtain ⟨q', rfl⟩ : ∃ q', q = q' + 1 := ⟨q - 1, Oo⟩; have d1' : IntKind.u64.wrap (((q' + 1 : Nat) : Int) - 1) = (q' : Int) := by rw [show ((q' + 1 : Nat) : Int) - 1 = (q' : Int) by omega]; exact qAN _ Oo
       have hI2 : R = q' * a1 + r' := by have h := hI.1; rw [Nat.add_mul, Nat.one_mul] at h; omega
       obtain ⟨qn, hqn⟩ : ∃ x, x = q' + 1 := ⟨_, rfl⟩; rw [← hqn] at d1' c0 hc; have HI2 := dd hI2; have HST := dd (show (R * 4294967296 + l0) / Y ≤ q' from Nat.le_of_lt_succ hst); have HQ' := dd (show q' < 17179869184 by omega); have HQN := dd hqn; rw [← hqn]; have HQb := dd (show qb ≤ 18446744073709551615 → True from fun _ => trivial); clear hI HI hst hI2 hr' hrb hrv hqb hu hq hr hqn
       by_cases hb : 4294967296 ≤ r'
       ·have hbr := qG5 (v := l0) hpos p3 (by rw [← hyp]; exact HRY.out) HI2.out (by rw [← hyp]; exact HST.out) hb; rw [← hyp] at hbr; have HB := dd hbr; have b1 : (4294967296 : Int) ≤ (r' : Int) := Oo; clear hbr hyp hb
        by_cases g0 : 4294967296 ≤ qn
        ·have g1 : (4294967296 : Int) ≤ (qn : Int) := Oo; clear hc c0 g0; have hR2 := qCh (u := R) (v := l0) HYp.out HB.out; obtain ⟨R2, hR2e⟩ : ∃ x, x = (R * 4294967296 + l0) % Y := ⟨_, rfl⟩; rw [← hR2e] at hR2; have hR2Y : R2 < Y := by rw [hR2e]; exact Nat.mod_lt _ HYp.out
         have hY1 := HY1.out; obtain ⟨z2, hz2⟩ : ∃ z, z = q' * Y := ⟨_, rfl⟩; rw [← hz2] at hR2; obtain ⟨xa, hxa⟩ : ∃ x, x = R * 4294967296 % 18446744073709551616 := ⟨_, rfl⟩; obtain ⟨xb, hxb⟩ : ∃ x, x = (xa + l0) % 18446744073709551616 := ⟨_, rfl⟩; obtain ⟨xc, hxc⟩ : ∃ x, x = z2 % 18446744073709551616 := ⟨_, rfl⟩; have j1 : IntKind.u64.wrap ((R : Int) * 4294967296) = (xa : Int) := by rw [IntKind.wrap_u64]; omega
         have j2 : IntKind.u64.wrap ((xa : Int) + (l0 : Int)) = (xb : Int) := by rw [IntKind.wrap_u64]; omega
         have j3 : IntKind.u64.wrap ((q' : Int) * (Y : Int)) = (xc : Int) := by rw [qBQ, ← hz2, qCJ, hxc]
         have j4 : IntKind.u64.wrap ((xb : Int) - (xc : Int)) = (R2 : Int) := by rw [IntKind.wrap_u64]; omega
         obtain ⟨G, hG⟩ : ∃ x, x = R2 / 2 ^ s := ⟨_, rfl⟩; have j5 : (R2 : Int) / 2 ^ s = (G : Int) := by rw [hG]; simp
         have HG := dd (show G = (hi * 18446744073709551616 + lo) % y by rw [hG, hR2e, HRe.out, qDW, ← HLe.out]; exact HR.out); have HGi := dd (show ((hi : Int) * 18446744073709551616 + (lo : Int)) % (y : Int) = (G : Int) by rw [HG.out]; simp); clear hR2 hR2e hR2Y hY1 hz2 hxa hxb hxc hG; go_wp2
         go_ret2
         first | rw [← HG.out] | rw [HGi.out]
         exact ⟨⟨_, rfl⟩, 0, rfl⟩
        ·have g1 : ¬ (4294967296 : Int) ≤ (qn : Int) := Oo; have g2 : (rv : Int) < (qb : Int) := Oo; have c0 := c0 Oo; clear hc g0; have hR2 := qCh (u := R) (v := l0) HYp.out HB.out; obtain ⟨R2, hR2e⟩ : ∃ x, x = (R * 4294967296 + l0) % Y := ⟨_, rfl⟩; rw [← hR2e] at hR2; have hR2Y : R2 < Y := by rw [hR2e]; exact Nat.mod_lt _ HYp.out
         have hY1 := HY1.out; obtain ⟨z2, hz2⟩ : ∃ z, z = q' * Y := ⟨_, rfl⟩; rw [← hz2] at hR2; obtain ⟨xa, hxa⟩ : ∃ x, x = R * 4294967296 % 18446744073709551616 := ⟨_, rfl⟩; obtain ⟨xb, hxb⟩ : ∃ x, x = (xa + l0) % 18446744073709551616 := ⟨_, rfl⟩; obtain ⟨xc, hxc⟩ : ∃ x, x = z2 % 18446744073709551616 := ⟨_, rfl⟩; have j1 : IntKind.u64.wrap ((R : Int) * 4294967296) = (xa : Int) := by rw [IntKind.wrap_u64]; omega
         have j2 : IntKind.u64.wrap ((xa : Int) + (l0 : Int)) = (xb : Int) := by rw [IntKind.wrap_u64]; omega
         have j3 : IntKind.u64.wrap ((q' : Int) * (Y : Int)) = (xc : Int) := by rw [qBQ, ← hz2, qCJ, hxc]
         have j4 : IntKind.u64.wrap ((xb : Int) - (xc : Int)) = (R2 : Int) := by rw [IntKind.wrap_u64]; omega
         obtain ⟨G, hG⟩ : ∃ x, x = R2 / 2 ^ s := ⟨_, rfl⟩; have j5 : (R2 : Int) / 2 ^ s = (G : Int) := by rw [hG]; simp
         have HG := dd (show G = (hi * 18446744073709551616 + lo) % y by rw [hG, hR2e, HRe.out, qDW, ← HLe.out]; exact HR.out); have HGi := dd (show ((hi : Int) * 18446744073709551616 + (lo : Int)) % (y : Int) = (G : Int) by rw [HG.out]; simp); clear hR2 hR2e hR2Y hY1 hz2 hxa hxb hxc hG; go_wp2
         go_ret2
         first | rw [← HG.out] | rw [HGi.out]
         exact ⟨⟨_, rfl⟩, 0, rfl⟩
       ·have b1 : ¬ (4294967296 : Int) ≤ (r' : Int) := Oo; have HRB := dd (show r' < 4294967296 by omega); clear hyp hb
        by_cases g0 : 4294967296 ≤ qn
        ·have g1 : (4294967296 : Int) ≤ (qn : Int) := Oo; clear hc c0 g0; go_wp2; exact ⟨⟨q', r', rfl, rfl, HQ'.out, HRB.out, dd ⟨HI2.out, HST.out⟩, (by trivial)⟩, by have := HQN.out; simp [intOf]; omega⟩
        ·have g1 : ¬ (4294967296 : Int) ≤ (qn : Int) := Oo; have g2 : (rv : Int) < (qb : Int) := Oo; have c0 := c0 Oo; clear hc g0; go_wp2; exact ⟨⟨q', r', rfl, rfl, HQ'.out, HRB.out, dd ⟨HI2.out, HST.out⟩, (by trivial)⟩, by have := HQN.out; simp [intOf]; omega⟩
      ·have hen := qFJ (v := l0) hpos hI.1 (by rw [← hyp]; exact hI.2) (by rw [← hqb, ← hrb, ← hrv]; omega); rw [← hyp] at hen; have HB := dd hen; have g1 : ¬ (4294967296 : Int) ≤ (q : Int) := Oo; have g2 : ¬ (rv : Int) < (qb : Int) := Oo; have c0 := c0 Oo; obtain ⟨q', rfl⟩ : ∃ q', q' = q := ⟨_, rfl⟩; clear hen hI HI hr' hrb hrv hqb hu hq hr hc hyp; have hR2 := qCh (u := R) (v := l0) HYp.out HB.out; obtain ⟨R2, hR2e⟩ : ∃ x, x = (R * 4294967296 + l0) % Y := ⟨_, rfl⟩; rw [← hR2e] at hR2; have hR2Y : R2 < Y := by rw [hR2e]; exact Nat.mod_lt _ HYp.out
       have hY1 := HY1.out; obtain ⟨z2, hz2⟩ : ∃ z, z = q' * Y := ⟨_, rfl⟩; rw [← hz2] at hR2; obtain ⟨xa, hxa⟩ : ∃ x, x = R * 4294967296 % 18446744073709551616 := ⟨_, rfl⟩; obtain ⟨xb, hxb⟩ : ∃ x, x = (xa + l0) % 18446744073709551616 := ⟨_, rfl⟩; obtain ⟨xc, hxc⟩ : ∃ x, x = z2 % 18446744073709551616 := ⟨_, rfl⟩; have j1 : IntKind.u64.wrap ((R : Int) * 4294967296) = (xa : Int) := by rw [IntKind.wrap_u64]; omega
       have j2 : IntKind.u64.wrap ((xa : Int) + (l0 : Int)) = (xb : Int) := by rw [IntKind.wrap_u64]; omega
       have j3 : IntKind.u64.wrap ((q' : Int) * (Y : Int)) = (xc : Int) := by rw [qBQ, ← hz2, qCJ, hxc]
       have j4 : IntKind.u64.wrap ((xb : Int) - (xc : Int)) = (R2 : Int) := by rw [IntKind.wrap_u64]; omega
       obtain ⟨G, hG⟩ : ∃ x, x = R2 / 2 ^ s := ⟨_, rfl⟩; have j5 : (R2 : Int) / 2 ^ s = (G : Int) := by rw [hG]; simp
       have HG := dd (show G = (hi * 18446744073709551616 + lo) % y by rw [hG, hR2e, HRe.out, qDW, ← HLe.out]; exact HR.out); have HGi := dd (show ((hi : Int) * 18446744073709551616 + (lo : Int)) % (y : Int) = (G : Int) by rw [HG.out]; simp); clear hR2 hR2e hR2Y hY1 hz2 hxa hxb hxc hG; go_wp2
       go_ret2
       first | rw [← HG.out] | rw [HGi.out]
       exact ⟨⟨_, rfl⟩, 0, rfl⟩
    ·have g1 : ¬ (4294967296 : Int) ≤ (qn : Int) := Oo; have g2 : (rv : Int) < (qb : Int) := Oo; have c0 := c0 Oo; clear hc g0; have HYp := dd (show 0 < Y by have := HYe.out; omega); have hR := qCh (u := U) (v := l1) HYp.out HB.out; obtain ⟨R, hRe⟩ : ∃ x, x = (U * 4294967296 + l1) % Y := ⟨_, rfl⟩; rw [← hRe] at hR; have hRY : R < Y := by rw [hRe]; exact Nat.mod_lt _ HYp.out
     have hY1 := HY1.out; have hU3 := HU3.out; obtain ⟨z, hz⟩ : ∃ z, z = q' * Y := ⟨_, rfl⟩; rw [← hz] at hR; obtain ⟨x1, hx1⟩ : ∃ x, x = U * 4294967296 % 18446744073709551616 := ⟨_, rfl⟩; obtain ⟨x2, hx2⟩ : ∃ x, x = (x1 + l1) % 18446744073709551616 := ⟨_, rfl⟩; obtain ⟨x3, hx3⟩ : ∃ x, x = z % 18446744073709551616 := ⟨_, rfl⟩; have f1 : IntKind.u64.wrap ((U : Int) * 4294967296) = (x1 : Int) := by rw [IntKind.wrap_u64]; omega
     have f2 : IntKind.u64.wrap ((x1 : Int) + (l1 : Int)) = (x2 : Int) := by rw [IntKind.wrap_u64]; omega
     have f3 : IntKind.u64.wrap ((q' : Int) * (Y : Int)) = (x3 : Int) := by rw [qBQ, ← hz, qCJ, hx3]
     have f4 : IntKind.u64.wrap ((x2 : Int) - (x3 : Int)) = (R : Int) := by rw [IntKind.wrap_u64]; omega
     have HRe := dd hRe; have HRY := dd hRY; obtain ⟨q0, hq0⟩ : ∃ q, q = R / a1 := ⟨_, rfl⟩; obtain ⟨r0, hr0⟩ : ∃ r, r = R % a1 := ⟨_, rfl⟩; have hUe2 : R = q0 * a1 + r0 := by rw [hq0, hr0, Nat.mul_comm]; exact (Nat.div_add_mod R a1).symm
     have hrl2 : r0 < a1 := by rw [hr0]; exact Nat.mod_lt _ Oo
     have hql2 : q0 < 17179869184 := by
      rw [hq0]; exact (Nat.div_lt_iff_lt_mul Oo).2 Oo
     have eq02 : (R : Int) / (a1 : Int) = (q0 : Int) := by rw [hq0]; simp
     have eqw2 : IntKind.u64.wrap (q0 : Int) = (q0 : Int) := qAN q0 Oo; have hqa2 : q0 * a1 ≤ R := Oo; obtain ⟨qa2, hqa2'⟩ : ∃ x, x = q0 * a1 := ⟨_, rfl⟩; have eqm2 : IntKind.u64.wrap ((q0 : Int) * (a1 : Int)) = (qa2 : Int) := by rw [qBQ, hqa2']; exact qAN _ Oo
     have er2 : IntKind.u64.wrap ((R : Int) - (qa2 : Int)) = (r0 : Int) := by
      rw [show (R : Int) - (qa2 : Int) = (r0 : Int) by omega]; exact qAN _ Oo
     have HT2 := dd (show (R * 4294967296 + l0) / Y ≤ q0 by
      have := qGt (y1 := a1) (y0 := a0) (u := R) (v := l0) Oo p5; rw [← hq0, ← HYe.out] at this; exact this)
     have HQ2 := dd hql2; have HRL2 := dd hrl2; have HUe2 := dd hUe2; clear hR hRe hRY hY1 hU3 hz hx1 hx2 hx3 hq0 hr0 hUe2 hrl2 hql2 hqa2 hqa2' HB
     go_wp2_with fail
     (try clear c0)
     (try clear d1')
     (try clear g1)
     (try clear g2)
     (try clear b1)
     clear c1 c2 d2 f1 f2 f3 f4 eq02 eqm2 er2 eq0 eqm er eqw eqw2
     go_loopw [16, 18] (fun sr sq wr => ∃ q r : Nat, sq = .int .u64 (q : Int) ∧ sr = .int .u64 (r : Int) ∧ q < 17179869184 ∧ r < 4294967296 ∧ Hid (R = q * a1 + r ∧ (R * 4294967296 + l0) / Y ≤ q) ∧ w = wr) (fun _ i _ => (intOf i).toNat)
     case atStart => exact ⟨q0, r0, rfl, rfl, HQ2.out, Nat.lt_trans HRL2.out p2, dd ⟨HUe2.out, HT2.out⟩, rfl⟩
     case round =>
      obtain ⟨q, r, rfl, rfl, hq, hr, HI, rfl⟩ := hrel; have hI := HI.out; have hyp := HYe.out; obtain ⟨qb, hqb⟩ : ∃ x, x = q * a0 := ⟨_, rfl⟩; have c0 : q < 4294967296 → IntKind.u64.wrap ((q : Int) * (a0 : Int)) = (qb : Int) := fun h => by rw [qBQ, ← hqb]; exact qAN _ (by rw [hqb]; exact Nat.lt_of_le_of_lt (Nat.mul_le_mul (show q ≤ 4294967295 by omega) (show a0 ≤ 4294967295 by omega)) (by decide))
      obtain ⟨rb, hrb⟩ : ∃ x, x = 4294967296 * r := ⟨_, rfl⟩; have c1 : IntKind.u64.wrap (4294967296 * (r : Int)) = (rb : Int) := by rw [show 4294967296 * (r : Int) = (rb : Int) by omega]; exact qAN _ Oo
      obtain ⟨rv, hrv⟩ : ∃ x, x = rb + l0 := ⟨_, rfl⟩; have c2 : IntKind.u64.wrap ((rb : Int) + (l0 : Int)) = (rv : Int) := by rw [show (rb : Int) + (l0 : Int) = (rv : Int) by omega]; exact qAN _ Oo
      obtain ⟨r', hr'⟩ : ∃ x, x = r + a1 := ⟨_, rfl⟩; have d2 : IntKind.u64.wrap ((r : Int) + (a1 : Int)) = (r' : Int) := by rw [show (r : Int) + (a1 : Int) = (r' : Int) by omega]; exact qAN _ Oo
      have hu : R < a1 * 4294967296 + a0 := by rw [← hyp]; exact HRY.out
      have hpos : 0 < a1 := Oo
      by_cases hc : 4294967296 ≤ q ∨ rv < qb
      ·have hst := qGX hpos p5 hu hI.1 (by rcases hc with h | h; exact .inl h; exact .inr (by rw [← hqb, ← hrb, ← hrv]; exact h)); rw [← hyp] at hst; have hq1 : 1 ≤ q := Nat.lt_of_le_of_lt (Nat.zero_le _) hst; obtain ⟨q', rfl⟩ : ∃ q', q = q' + 1 := ⟨q - 1, Oo⟩; have d1' : IntKind.u64.wrap (((q' + 1 : Nat) : Int) - 1) = (q' : Int) := by rw [show ((q' + 1 : Nat) : Int) - 1 = (q' : Int) by omega]; exact qAN _ Oo
       have hI2 : R = q' * a1 + r' := by have h := hI.1; rw [Nat.add_mul, Nat.one_mul] at h; omega
       obtain ⟨qn, hqn⟩ : ∃ x, x = q' + 1 := ⟨_, rfl⟩; rw [← hqn] at d1' c0 hc; have HI2 := dd hI2; have HST := dd (show (R * 4294967296 + l0) / Y ≤ q' from Nat.le_of_lt_succ hst); have HQ' := dd (show q' < 17179869184 by omega); have HQN := dd hqn; rw [← hqn]; have HQb := dd (show qb ≤ 18446744073709551615 → True from fun _ => trivial); clear hI HI hst hI2 hr' hrb hrv hqb hu hq hr hqn
       by_cases hb : 4294967296 ≤ r'
       ·have hbr := qG5 (v := l0) hpos p3 (by rw [← hyp]; exact HRY.out) HI2.out (by rw [← hyp]; exact HST.out) hb; rw [← hyp] at hbr; have HB := dd hbr; have b1 : (4294967296 : Int) ≤ (r' : Int) := Oo; clear hbr hyp hb
        by_cases g0 : 4294967296 ≤ qn
        ·have g1 : (4294967296 : Int) ≤ (qn : Int) := Oo; clear hc c0 g0; have hR2 := qCh (u := R) (v := l0) HYp.out HB.out; obtain ⟨R2, hR2e⟩ : ∃ x, x = (R * 4294967296 + l0) % Y := ⟨_, rfl⟩; rw [← hR2e] at hR2; have hR2Y : R2 < Y := by rw [hR2e]; exact Nat.mod_lt _ HYp.out
         have hY1 := HY1.out; obtain ⟨z2, hz2⟩ : ∃ z, z = q' * Y := ⟨_, rfl⟩; rw [← hz2] at hR2; obtain ⟨xa, hxa⟩ : ∃ x, x = R * 4294967296 % 18446744073709551616 := ⟨_, rfl⟩; obtain ⟨xb, hxb⟩ : ∃ x, x = (xa + l0) % 18446744073709551616 := ⟨_, rfl⟩; obtain ⟨xc, hxc⟩ : ∃ x, x = z2 % 18446744073709551616 := ⟨_, rfl⟩; have j1 : IntKind.u64.wrap ((R : Int) * 4294967296) = (xa : Int) := by rw [IntKind.wrap_u64]; omega
         have j2 : IntKind.u64.wrap ((xa : Int) + (l0 : Int)) = (xb : Int) := by rw [IntKind.wrap_u64]; omega
         have j3 : IntKind.u64.wrap ((q' : Int) * (Y : Int)) = (xc : Int) := by rw [qBQ, ← hz2, qCJ, hxc]
         have j4 : IntKind.u64.wrap ((xb : Int) - (xc : Int)) = (R2 : Int) := by rw [IntKind.wrap_u64]; omega
         obtain ⟨G, hG⟩ : ∃ x, x = R2 / 2 ^ s := ⟨_, rfl⟩; have j5 : (R2 : Int) / 2 ^ s = (G : Int) := by rw [hG]; simp
         have HG := dd (show G = (hi * 18446744073709551616 + lo) % y by rw [hG, hR2e, HRe.out, qDW, ← HLe.out]; exact HR.out); have HGi := dd (show ((hi : Int) * 18446744073709551616 + (lo : Int)) % (y : Int) = (G : Int) by rw [HG.out]; simp); clear hR2 hR2e hR2Y hY1 hz2 hxa hxb hxc hG; go_wp2
         go_ret2
         first | rw [← HG.out] | rw [HGi.out]
         exact ⟨⟨_, rfl⟩, 0, rfl⟩
        ·have g1 : ¬ (4294967296 : Int) ≤ (qn : Int) := Oo; have g2 : (rv : Int) < (qb : Int) := Oo; have c0 := c0 Oo; clear hc g0; have hR2 := qCh (u := R) (v := l0) HYp.out HB.out; obtain ⟨R2, hR2e⟩ : ∃ x, x = (R * 4294967296 + l0) % Y := ⟨_, rfl⟩; rw [← hR2e] at hR2; have hR2Y : R2 < Y := by rw [hR2e]; exact Nat.mod_lt _ HYp.out
         have hY1 := HY1.out; obtain ⟨z2, hz2⟩ : ∃ z, z = q' * Y := ⟨_, rfl⟩; rw [← hz2] at hR2; obtain ⟨xa, hxa⟩ : ∃ x, x = R * 4294967296 % 18446744073709551616 := ⟨_, rfl⟩; obtain ⟨xb, hxb⟩ : ∃ x, x = (xa + l0) % 18446744073709551616 := ⟨_, rfl⟩; obtain ⟨xc, hxc⟩ : ∃ x, x = z2 % 18446744073709551616 := ⟨_, rfl⟩; have j1 : IntKind.u64.wrap ((R : Int) * 4294967296) = (xa : Int) := by rw [IntKind.wrap_u64]; omega
         have j2 : IntKind.u64.wrap ((xa : Int) + (l0 : Int)) = (xb : Int) := by rw [IntKind.wrap_u64]; omega
         have j3 : IntKind.u64.wrap ((q' : Int) * (Y : Int)) = (xc : Int) := by rw [qBQ, ← hz2, qCJ, hxc]
         have j4 : IntKind.u64.wrap ((xb : Int) - (xc : Int)) = (R2 : Int) := by rw [IntKind.wrap_u64]; omega
         obtain ⟨G, hG⟩ : ∃ x, x = R2 / 2 ^ s := ⟨_, rfl⟩; have j5 : (R2 : Int) / 2 ^ s = (G : Int) := by rw [hG]; simp
         have HG := dd (show G = (hi * 18446744073709551616 + lo) % y by rw [hG, hR2e, HRe.out, qDW, ← HLe.out]; exact HR.out); have HGi := dd (show ((hi : Int) * 18446744073709551616 + (lo : Int)) % (y : Int) = (G : Int) by rw [HG.out]; simp); clear hR2 hR2e hR2Y hY1 hz2 hxa hxb hxc hG; go_wp2
         go_ret2
         first | rw [← HG.out] | rw [HGi.out]
         exact ⟨⟨_, rfl⟩, 0, rfl⟩
       ·have b1 : ¬ (4294967296 : Int) ≤ (r' : Int) := Oo; have HRB := dd (show r' < 4294967296 by omega); clear hyp hb
        by_cases g0 : 4294967296 ≤ qn
        ·have g1 : (4294967296 : Int) ≤ (qn : Int) := Oo; clear hc c0 g0; go_wp2; exact ⟨⟨q', r', rfl, rfl, HQ'.out, HRB.out, dd ⟨HI2.out, HST.out⟩, (by trivial)⟩, by have := HQN.out; simp [intOf]; omega⟩
        ·have g1 : ¬ (4294967296 : Int) ≤ (qn : Int) := Oo; have g2 : (rv : Int) < (qb : Int) := Oo; have c0 := c0 Oo; clear hc g0; go_wp2; exact ⟨⟨q', r', rfl, rfl, HQ'.out, HRB.out, dd ⟨HI2.out, HST.out⟩, (by trivial)⟩, by have := HQN.out; simp [intOf]; omega⟩
      ·have hen := qFJ (v := l0) hpos hI.1 (by rw [← hyp]; exact hI.2) (by rw [← hqb, ← hrb, ← hrv]; omega); rw [← hyp] at hen; have HB := dd hen; have g1 : ¬ (4294967296 : Int) ≤ (q : Int) := Oo; have g2 : ¬ (rv : Int) < (qb : Int) := Oo; have c0 := c0 Oo; obtain ⟨q', rfl⟩ : ∃ q', q' = q := ⟨_, rfl⟩; clear hen hI HI hr' hrb hrv hqb hu hq hr hc hyp; have hR2 := qCh (u := R) (v := l0) HYp.out HB.out; obtain ⟨R2, hR2e⟩ : ∃ x, x = (R * 4294967296 + l0) % Y := ⟨_, rfl⟩; rw [← hR2e] at hR2; have hR2Y : R2 < Y := by rw [hR2e]; exact Nat.mod_lt _ HYp.out
       have hY1 := HY1.out; obtain ⟨z2, hz2⟩ : ∃ z, z = q' * Y := ⟨_, rfl⟩; rw [← hz2] at hR2; obtain ⟨xa, hxa⟩ : ∃ x, x = R * 4294967296 % 18446744073709551616 := ⟨_, rfl⟩; obtain ⟨xb, hxb⟩ : ∃ x, x = (xa + l0) % 18446744073709551616 := ⟨_, rfl⟩; obtain ⟨xc, hxc⟩ : ∃ x, x = z2 % 18446744073709551616 := ⟨_, rfl⟩; have j1 : IntKind.u64.wrap ((R : Int) * 4294967296) = (xa : Int) := by rw [IntKind.wrap_u64]; omega
       have j2 : IntKind.u64.wrap ((xa : Int) + (l0 : Int)) = (xb : Int) := by rw [IntKind.wrap_u64]; omega
       have j3 : IntKind.u64.wrap ((q' : Int) * (Y : Int)) = (xc : Int) := by rw [qBQ, ← hz2, qCJ, hxc]
       have j4 : IntKind.u64.wrap ((xb : Int) - (xc : Int)) = (R2 : Int) := by rw [IntKind.wrap_u64]; omega
       obtain ⟨G, hG⟩ : ∃ x, x = R2 / 2 ^ s := ⟨_, rfl⟩; have j5 : (R2 : Int) / 2 ^ s = (G : Int) := by rw [hG]; simp
       have HG := dd (show G = (hi * 18446744073709551616 + lo) % y by rw [hG, hR2e, HRe.out, qDW, ← HLe.out]; exact HR.out); have HGi := dd (show ((hi : Int) * 18446744073709551616 + (lo : Int)) % (y : Int) = (G : Int) by rw [HG.out]; simp); clear hR2 hR2e hR2Y hY1 hz2 hxa hxb hxc hG; go_wp2
       go_ret2
       first | rw [← HG.out] | rw [HGi.out]
       exact ⟨⟨_, rfl⟩, 0, rfl⟩
   ·have b1 : ¬ (4294967296 : Int) ≤ (r' : Int) := Oo; have HRB := dd (show r' < 4294967296 by omega); clear hyp hb
    by_cases g0 : 4294967296 ≤ qn
    ·have g1 : (4294967296 : Int) ≤ (qn : Int) := Oo; clear hc c0 g0; go_wp2; exact ⟨⟨q', r', rfl, rfl, HQ'.out, HRB.out, dd ⟨HI2.out, HST.out⟩, (by trivial)⟩, by have := HQN.out; simp [intOf]; omega⟩
    ·have g1 : ¬ (4294967296 : Int) ≤ (qn : Int) := Oo; have g2 : (rv : Int) < (qb : Int) := Oo; have c0 := c0 Oo; clear hc g0; go_wp2; exact ⟨⟨q', r', rfl, rfl, HQ'.out, HRB.out, dd ⟨HI2.out, HST.out⟩, (by trivial)⟩, by have := HQN.out; simp [intOf]; omega⟩
  ·have hen := qFJ (v := l1) hpos hI.1 (by rw [← hyp]; exact hI.2) (by rw [← hqb, ← hrb, ← hrv]; omega); rw [← hyp] at hen; have HB := dd hen; have g1 : ¬ (4294967296 : Int) ≤ (q : Int) := Oo; have g2 : ¬ (rv : Int) < (qb : Int) := Oo; have c0 := c0 Oo; obtain ⟨q', rfl⟩ : ∃ q', q' = q := ⟨_, rfl⟩; clear hen hI HI hr' hrb hrv hqb hu hq hr hc hyp; have HYp := dd (show 0 < Y by have := HYe.out; omega); have hR := qCh (u := U) (v := l1) HYp.out HB.out; obtain ⟨R, hRe⟩ : ∃ x, x = (U * 4294967296 + l1) % Y := ⟨_, rfl⟩; rw [← hRe] at hR; have hRY : R < Y := by rw [hRe]; exact Nat.mod_lt _ HYp.out
   have hY1 := HY1.out; have hU3 := HU3.out; obtain ⟨z, hz⟩ : ∃ z, z = q' * Y := ⟨_, rfl⟩; rw [← hz] at hR; obtain ⟨x1, hx1⟩ : ∃ x, x = U * 4294967296 % 18446744073709551616 := ⟨_, rfl⟩; obtain ⟨x2, hx2⟩ : ∃ x, x = (x1 + l1) % 18446744073709551616 := ⟨_, rfl⟩; obtain ⟨x3, hx3⟩ : ∃ x, x = z % 18446744073709551616 := ⟨_, rfl⟩; have f1 : IntKind.u64.wrap ((U : Int) * 4294967296) = (x1 : Int) := by rw [IntKind.wrap_u64]; omega
   have f2 : IntKind.u64.wrap ((x1 : Int) + (l1 : Int)) = (x2 : Int) := by rw [IntKind.wrap_u64]; omega
   have f3 : IntKind.u64.wrap ((q' : Int) * (Y : Int)) = (x3 : Int) := by rw [qBQ, ← hz, qCJ, hx3]
   have f4 : IntKind.u64.wrap ((x2 : Int) - (x3 : Int)) = (R : Int) := by rw [IntKind.wrap_u64]; omega
   have HRe := dd hRe; have HRY := dd hRY; obtain ⟨q0, hq0⟩ : ∃ q, q = R / a1 := ⟨_, rfl⟩; obtain ⟨r0, hr0⟩ : ∃ r, r = R % a1 := ⟨_, rfl⟩; have hUe2 : R = q0 * a1 + r0 := by rw [hq0, hr0, Nat.mul_comm]; exact (Nat.div_add_mod R a1).symm
   have hrl2 : r0 < a1 := by rw [hr0]; exact Nat.mod_lt _ Oo
   have hql2 : q0 < 17179869184 := by
    rw [hq0]; exact (Nat.div_lt_iff_lt_mul Oo).2 Oo
   have eq02 : (R : Int) / (a1 : Int) = (q0 : Int) := by rw [hq0]; simp
   have eqw2 : IntKind.u64.wrap (q0 : Int) = (q0 : Int) := qAN q0 Oo; have hqa2 : q0 * a1 ≤ R := Oo; obtain ⟨qa2, hqa2'⟩ : ∃ x, x = q0 * a1 := ⟨_, rfl⟩; have eqm2 : IntKind.u64.wrap ((q0 : Int) * (a1 : Int)) = (qa2 : Int) := by rw [qBQ, hqa2']; exact qAN _ Oo
   have er2 : IntKind.u64.wrap ((R : Int) - (qa2 : Int)) = (r0 : Int) := by
    rw [show (R : Int) - (qa2 : Int) = (r0 : Int) by omega]; exact qAN _ Oo
   have HT2 := dd (show (R * 4294967296 + l0) / Y ≤ q0 by
    have := qGt (y1 := a1) (y0 := a0) (u := R) (v := l0) Oo p5; rw [← hq0, ← HYe.out] at this; exact this)
   have HQ2 := dd hql2; have HRL2 := dd hrl2; have HUe2 := dd hUe2; clear hR hRe hRY hY1 hU3 hz hx1 hx2 hx3 hq0 hr0 hUe2 hrl2 hql2 hqa2 hqa2' HB
   go_wp2_with fail
   (try clear c0)
   (try clear d1')
   (try clear g1)
   (try clear g2)
   (try clear b1)
   clear c1 c2 d2 f1 f2 f3 f4 eq02 eqm2 er2 eq0 eqm er eqw eqw2
   go_loopw [16, 18] (fun sr sq wr => ∃ q r : Nat, sq = .int .u64 (q : Int) ∧ sr = .int .u64 (r : Int) ∧ q < 17179869184 ∧ r < 4294967296 ∧ Hid (R = q * a1 + r ∧ (R * 4294967296 + l0) / Y ≤ q) ∧ w = wr) (fun _ i _ => (intOf i).toNat)
   case atStart => exact ⟨q0, r0, rfl, rfl, HQ2.out, Nat.lt_trans HRL2.out p2, dd ⟨HUe2.out, HT2.out⟩, rfl⟩
   case round =>
    obtain ⟨q, r, rfl, rfl, hq, hr, HI, rfl⟩ := hrel; have hI := HI.out; have hyp := HYe.out; obtain ⟨qb, hqb⟩ : ∃ x, x = q * a0 := ⟨_, rfl⟩; have c0 : q < 4294967296 → IntKind.u64.wrap ((q : Int) * (a0 : Int)) = (qb : Int) := fun h => by rw [qBQ, ← hqb]; exact qAN _ (by rw [hqb]; exact Nat.lt_of_le_of_lt (Nat.mul_le_mul (show q ≤ 4294967295 by omega) (show a0 ≤ 4294967295 by omega)) (by decide))
    obtain ⟨rb, hrb⟩ : ∃ x, x = 4294967296 * r := ⟨_, rfl⟩; have c1 : IntKind.u64.wrap (4294967296 * (r : Int)) = (rb : Int) := by rw [show 4294967296 * (r : Int) = (rb : Int) by omega]; exact qAN _ Oo
    obtain ⟨rv, hrv⟩ : ∃ x, x = rb + l0 := ⟨_, rfl⟩; have c2 : IntKind.u64.wrap ((rb : Int) + (l0 : Int)) = (rv : Int) := by rw [show (rb : Int) + (l0 : Int) = (rv : Int) by omega]; exact qAN _ Oo
    obtain ⟨r', hr'⟩ : ∃ x, x = r + a1 := ⟨_, rfl⟩; have d2 : IntKind.u64.wrap ((r : Int) + (a1 : Int)) = (r' : Int) := by rw [show (r : Int) + (a1 : Int) = (r' : Int) by omega]; exact qAN _ Oo
    have hu : R < a1 * 4294967296 + a0 := by rw [← hyp]; exact HRY.out
    have hpos : 0 < a1 := Oo
    by_cases hc : 4294967296 ≤ q ∨ rv < qb
    ·have hst := qGX hpos p5 hu hI.1 (by rcases hc with h | h; exact .inl h; exact .inr (by rw [← hqb, ← hrb, ← hrv]; exact h)); rw [← hyp] at hst; have hq1 : 1 ≤ q := Nat.lt_of_le_of_lt (Nat.zero_le _) hst; obtain ⟨q', rfl⟩ : ∃ q', q = q' + 1 := ⟨q - 1, Oo⟩; have d1' : IntKind.u64.wrap (((q' + 1 : Nat) : Int) - 1) = (q' : Int) := by rw [show ((q' + 1 : Nat) : Int) - 1 = (q' : Int) by omega]; exact qAN _ Oo
     have hI2 : R = q' * a1 + r' := by have h := hI.1; rw [Nat.add_mul, Nat.one_mul] at h; omega
     obtain ⟨qn, hqn⟩ : ∃ x, x = q' + 1 := ⟨_, rfl⟩; rw [← hqn] at d1' c0 hc; have HI2 := dd hI2; have HST := dd (show (R * 4294967296 + l0) / Y ≤ q' from Nat.le_of_lt_succ hst); have HQ' := dd (show q' < 17179869184 by omega); have HQN := dd hqn; rw [← hqn]; have HQb := dd (show qb ≤ 18446744073709551615 → True from fun _ => trivial); clear hI HI hst hI2 hr' hrb hrv hqb hu hq hr hqn
     by_cases hb : 4294967296 ≤ r'
     ·have hbr := qG5 (v := l0) hpos p3 (by rw [← hyp]; exact HRY.out) HI2.out (by rw [← hyp]; exact HST.out) hb; rw [← hyp] at hbr; have HB := dd hbr; have b1 : (4294967296 : Int) ≤ (r' : Int) := Oo; clear hbr hyp hb
      by_cases g0 : 4294967296 ≤ qn
      ·have g1 : (4294967296 : Int) ≤ (qn : Int) := Oo; clear hc c0 g0; have hR2 := qCh (u := R) (v := l0) HYp.out HB.out; obtain ⟨R2, hR2e⟩ : ∃ x, x = (R * 4294967296 + l0) % Y := ⟨_, rfl⟩; rw [← hR2e] at hR2; have hR2Y : R2 < Y := by rw [hR2e]; exact Nat.mod_lt _ HYp.out
       have hY1 := HY1.out; obtain ⟨z2, hz2⟩ : ∃ z, z = q' * Y := ⟨_, rfl⟩; rw [← hz2] at hR2; obtain ⟨xa, hxa⟩ : ∃ x, x = R * 4294967296 % 18446744073709551616 := ⟨_, rfl⟩; obtain ⟨xb, hxb⟩ : ∃ x, x = (xa + l0) % 18446744073709551616 := ⟨_, rfl⟩; obtain ⟨xc, hxc⟩ : ∃ x, x = z2 % 18446744073709551616 := ⟨_, rfl⟩; have j1 : IntKind.u64.wrap ((R : Int) * 4294967296) = (xa : Int) := by rw [IntKind.wrap_u64]; omega
       have j2 : IntKind.u64.wrap ((xa : Int) + (l0 : Int)) = (xb : Int) := by rw [IntKind.wrap_u64]; omega
       have j3 : IntKind.u64.wrap ((q' : Int) * (Y : Int)) = (xc : Int) := by rw [qBQ, ← hz2, qCJ, hxc]
       have j4 : IntKind.u64.wrap ((xb : Int) - (xc : Int)) = (R2 : Int) := by rw [IntKind.wrap_u64]; omega
       obtain ⟨G, hG⟩ : ∃ x, x = R2 / 2 ^ s := ⟨_, rfl⟩; have j5 : (R2 : Int) / 2 ^ s = (G : Int) := by rw [hG]; simp
       have HG := dd (show G = (hi * 18446744073709551616 + lo) % y by rw [hG, hR2e, HRe.out, qDW, ← HLe.out]; exact HR.out); have HGi := dd (show ((hi : Int) * 18446744073709551616 + (lo : Int)) % (y : Int) = (G : Int) by rw [HG.out]; simp); clear hR2 hR2e hR2Y hY1 hz2 hxa hxb hxc hG; go_wp2
       go_ret2
       first | rw [← HG.out] | rw [HGi.out]
       exact ⟨⟨_, rfl⟩, 0, rfl⟩
      ·have g1 : ¬ (4294967296 : Int) ≤ (qn : Int) := Oo; have g2 : (rv : Int) < (qb : Int) := Oo; have c0 := c0 Oo; clear hc g0; have hR2 := qCh (u := R) (v := l0) HYp.out HB.out; obtain ⟨R2, hR2e⟩ : ∃ x, x = (R * 4294967296 + l0) % Y := ⟨_, rfl⟩; rw [← hR2e] at hR2; have hR2Y : R2 < Y := by rw [hR2e]; exact Nat.mod_lt _ HYp.out
       have hY1 := HY1.out; obtain ⟨z2, hz2⟩ : ∃ z, z = q' * Y := ⟨_, rfl⟩; rw [← hz2] at hR2; obtain ⟨xa, hxa⟩ : ∃ x, x = R * 4294967296 % 18446744073709551616 := ⟨_, rfl⟩; obtain ⟨xb, hxb⟩ : ∃ x, x = (xa + l0) % 18446744073709551616 := ⟨_, rfl⟩; obtain ⟨xc, hxc⟩ : ∃ x, x = z2 % 18446744073709551616 := ⟨_, rfl⟩; have j1 : IntKind.u64.wrap ((R : Int) * 4294967296) = (xa : Int) := by rw [IntKind.wrap_u64]; omega
       have j2 : IntKind.u64.wrap ((xa : Int) + (l0 : Int)) = (xb : Int) := by rw [IntKind.wrap_u64]; omega
       have j3 : IntKind.u64.wrap ((q' : Int) * (Y : Int)) = (xc : Int) := by rw [qBQ, ← hz2, qCJ, hxc]
       have j4 : IntKind.u64.wrap ((xb : Int) - (xc : Int)) = (R2 : Int) := by rw [IntKind.wrap_u64]; omega
       obtain ⟨G, hG⟩ : ∃ x, x = R2 / 2 ^ s := ⟨_, rfl⟩; have j5 : (R2 : Int) / 2 ^ s = (G : Int) := by rw [hG]; simp
       have HG := dd (show G = (hi * 18446744073709551616 + lo) % y by rw [hG, hR2e, HRe.out, qDW, ← HLe.out]; exact HR.out); have HGi := dd (show ((hi : Int) * 18446744073709551616 + (lo : Int)) % (y : Int) = (G : Int) by rw [HG.out]; simp); clear hR2 hR2e hR2Y hY1 hz2 hxa hxb hxc hG; go_wp2
       go_ret2
       first | rw [← HG.out] | rw [HGi.out]
       exact ⟨⟨_, rfl⟩, 0, rfl⟩
     ·have b1 : ¬ (4294967296 : Int) ≤ (r' : Int) := Oo; have HRB := dd (show r' < 4294967296 by omega); clear hyp hb
      by_cases g0 : 4294967296 ≤ qn
      ·have g1 : (4294967296 : Int) ≤ (qn : Int) := Oo; clear hc c0 g0; go_wp2; exact ⟨⟨q', r', rfl, rfl, HQ'.out, HRB.out, dd ⟨HI2.out, HST.out⟩, (by trivial)⟩, by have := HQN.out; simp [intOf]; omega⟩
      ·have g1 : ¬ (4294967296 : Int) ≤ (qn : Int) := Oo; have g2 : (rv : Int) < (qb : Int) := Oo; have c0 := c0 Oo; clear hc g0; go_wp2; exact ⟨⟨q', r', rfl, rfl, HQ'.out, HRB.out, dd ⟨HI2.out, HST.out⟩, (by trivial)⟩, by have := HQN.out; simp [intOf]; omega⟩
    ·have hen := qFJ (v := l0) hpos hI.1 (by rw [← hyp]; exact hI.2) (by rw [← hqb, ← hrb, ← hrv]; omega); rw [← hyp] at hen; have HB := dd hen; have g1 : ¬ (4294967296 : Int) ≤ (q : Int) := Oo; have g2 : ¬ (rv : Int) < (qb : Int) := Oo; have c0 := c0 Oo; obtain ⟨q', rfl⟩ : ∃ q', q' = q := ⟨_, rfl⟩; clear hen hI HI hr' hrb hrv hqb hu hq hr hc hyp; have hR2 := qCh (u := R) (v := l0) HYp.out HB.out; obtain ⟨R2, hR2e⟩ : ∃ x, x = (R * 4294967296 + l0) % Y := ⟨_, rfl⟩; rw [← hR2e] at hR2; have hR2Y : R2 < Y := by rw [hR2e]; exact Nat.mod_lt _ HYp.out
     have hY1 := HY1.out; obtain ⟨z2, hz2⟩ : ∃ z, z = q' * Y := ⟨_, rfl⟩; rw [← hz2] at hR2; obtain ⟨xa, hxa⟩ : ∃ x, x = R * 4294967296 % 18446744073709551616 := ⟨_, rfl⟩; obtain ⟨xb, hxb⟩ : ∃ x, x = (xa + l0) % 18446744073709551616 := ⟨_, rfl⟩; obtain ⟨xc, hxc⟩ : ∃ x, x = z2 % 18446744073709551616 := ⟨_, rfl⟩; have j1 : IntKind.u64.wrap ((R : Int) * 4294967296) = (xa : Int) := by rw [IntKind.wrap_u64]; omega
     have j2 : IntKind.u64.wrap ((xa : Int) + (l0 : Int)) = (xb : Int) := by rw [IntKind.wrap_u64]; omega
     have j3 : IntKind.u64.wrap ((q' : Int) * (Y : Int)) = (xc : Int) := by rw [qBQ, ← hz2, qCJ, hxc]
     have j4 : IntKind.u64.wrap ((xb : Int) - (xc : Int)) = (R2 : Int) := by rw [IntKind.wrap_u64]; omega
     obtain ⟨G, hG⟩ : ∃ x, x = R2 / 2 ^ s := ⟨_, rfl⟩; have j5 : (R2 : Int) / 2 ^ s = (G : Int) := by rw [hG]; simp
     have HG := dd (show G = (hi * 18446744073709551616 + lo) % y by rw [hG, hR2e, HRe.out, qDW, ← HLe.out]; exact HR.out); have HGi := dd (show ((hi : Int) * 18446744073709551616 + (lo : Int)) % (y : Int) = (G : Int) by rw [HG.out]; simp); clear hR2 hR2e hR2Y hY1 hz2 hxa hxb hxc hG; go_wp2
     go_ret2
     first | rw [← HG.out] | rw [HGi.out]
     exact ⟨⟨_, rfl⟩, 0, rfl⟩
end
section

theorem prod80 {a b m : Int} (ha : 0 ≤ a) (hb : 0 ≤ b) (ha' : a < m) (hb' : b < m) (hm : m ≤ 1099511627776) : 0 ≤ a * b ∧ a * b < 1208925819614629174706176 := by
 refine ⟨Int.mul_nonneg ha hb, ?_⟩
 have h1 : a * b ≤ 1099511627775 * 1099511627775 := Int.mul_le_mul Oo Oo hb Oo
 have : (1099511627775 * 1099511627775 : Int) < 1208925819614629174706176 := by decide
 omega

theorem qLI {a m : Int} (ha : 0 ≤ a) (hm : 0 < m) : a % m ≤ a := by
 have h := Int.mul_ediv_add_emod a m
 have h2 := Int.mul_nonneg (show 0 ≤ m by omega) (Int.ediv_nonneg ha (show 0 ≤ m by omega))
 omega
theorem qIh (m a b : Int) (w : World) (hm : 3000000000 < m) (hm' : m ≤ 1099511627776) (ha : 0 ≤ a) (hb : 0 ≤ b) (ha' : a < m) (hb' : b < m) (h : m < 1099511627776 ∨ a * b < 18446744073709551616) :
  Calls Tryz.prog 145 #[.int .i64 m, .int .i64 a, .int .i64 b] w fun e w' => e = .returned (.int .i64 (a * b % m)) ∧ ∃ d, w' = w.drewN d := by
 obtain ⟨x, rfl⟩ : ∃ x : Nat, a = x := ⟨a.toNat, Oo⟩
 obtain ⟨y, rfl⟩ : ∃ y : Nat, b = y := ⟨b.toNat, Oo⟩
 obtain ⟨M, rfl⟩ : ∃ M : Nat, m = M := ⟨m.toNat, Oo⟩
 have hp := (prod80 ha hb ha' hb' hm').2
 obtain ⟨z, hz⟩ : ∃ z, z = x * y := ⟨_, rfl⟩
 have hzi : (x : Int) * (y : Int) = (z : Int) := by rw [hz]; simp
 rw [hzi] at hp h ⊢
 have hmod := qA6 (a := (z : Int)) (show (0 : Int) < (M : Int) by omega)
 have e1 : IntKind.u64.wrap (x : Int) = (x : Int) := qAN x Oo
 have e2 : IntKind.u64.wrap (y : Int) = (y : Int) := qAN y Oo
 have e3 : IntKind.u64.wrap (M : Int) = (M : Int) := qAN M Oo
 have e4 : IntKind.i64.wrap ((z : Int) % (M : Int)) = (z : Int) % (M : Int) := IntWalk.i64_in _ Oo
 have g : ¬ (M : Int) ≤ 3000000000 := Oo
 have HZ := dd hz
 have HP := dd hp
 have HH := dd h
 clear hzi hz hp h
 obtain ⟨hi, hhi⟩ : ∃ h, h = z / 18446744073709551616 := ⟨_, rfl⟩
 obtain ⟨lo, hlo⟩ : ∃ l, l = z % 18446744073709551616 := ⟨_, rfl⟩
 have HI := dd hhi
 have LO := dd hlo
 have HZL := dd (show z = hi * 18446744073709551616 + lo by omega)
 clear hhi hlo
 go_enter Tryz.func145, Tryz.ntmps145
 go_wp2_with fail
 refine (qMg x y Oo Oo _).mono ?_
 rw [← HZ.out, ← HI.out, ← LO.out]
 rintro e w' ⟨rfl, rfl⟩
 go_wp2_with fail
 by_cases h0 : hi = 0
 ·subst h0; refine (qQR lo M (by have := LO.out; omega) Oo Oo _).mono ?_; rintro e w2 ⟨⟨q, rfl⟩, d, rfl⟩; have hzl : lo = z := by have := HZL.out; omega
  subst hzl; have e5 : IntKind.i64.wrap (((lo % M : Nat) : Int)) = (lo : Int) % (M : Int) := by rw [Int.natCast_emod]; exact e4
  go_wp2; go_ret; refine ⟨congrArg Ending.returned (congrArg (Value.int IntKind.i64) ?_), d, rfl⟩
  first | rfl | (simp; done)
 ·refine (qM0 hi lo M (by have := LO.out; omega) Oo (by have := HH.out; have := HZL.out; omega) (by have := HP.out; have := HZL.out; omega) Oo _).mono ?_; rintro e w2 ⟨⟨q, rfl⟩, d, rfl⟩; rw [← HZL.out]; have e5 : IntKind.i64.wrap (((z % M : Nat) : Int)) = (z : Int) % (M : Int) := by rw [Int.natCast_emod]; exact e4
  go_wp2; go_ret; refine ⟨congrArg Ending.returned (congrArg (Value.int IntKind.i64) ?_), d, rfl⟩
  first | rfl | (simp; done)
theorem qIH (m a b : Int) (w : World) (hm : 1 ≤ m) (hm' : m ≤ 1099511627776) (ha : 0 ≤ a) (hb : 0 ≤ b) (ha' : a < m) (hb' : b < m) (hh : m < 1099511627776 ∨ a * b < 18446744073709551616) :
  Calls Tryz.prog 145 #[.int .i64 m, .int .i64 a, .int .i64 b] w fun e w' => e = .returned (.int .i64 (a * b % m)) ∧ ∃ d, w' = w.drewN d := by
 by_cases h : m ≤ 3000000000
 ·exact (qG7 m a b w hm h ha hb ha' hb').mono fun e w' ⟨h1, h2⟩ => ⟨h1, 0, h2.symm⟩
 ·exact qIh m a b w Oo hm' ha hb ha' hb' hh
theorem qEp (m a b : Int) (w : World) (hm : 1 ≤ m) (hm' : m < 1099511627776) (ha : 0 ≤ a) (hb : 0 ≤ b) (ha' : a < m) (hb' : b < m) :
  Calls Tryz.prog 145 #[.int .i64 m, .int .i64 a, .int .i64 b] w fun e w' => e = .returned (.int .i64 (a * b % m)) ∧ ∃ d, w' = w.drewN d := by
 by_cases h : m ≤ 3000000000
 ·exact (qG7 m a b w hm h ha hb ha' hb').mono fun e w' ⟨h1, h2⟩ => ⟨h1, 0, h2.symm⟩
 ·exact qIh m a b w Oo Oo ha hb ha' hb' (.inl hm')

theorem qDQ (m a n : Int) (k : Nat) (w : World) (hn : n = k) (hm : 1 ≤ m) (hm' : m ≤ 1099511627776) (ha : 0 ≤ a) (ha' : a < m) (hk : k ≤ 1000000000000) (hs : m < 1099511627776 ∨ (a ≤ 7 ∧ k ≤ 2)) :
  Calls Tryz.prog 146 #[.int .i64 m, .int .i64 a, .int .i64 n] w fun e w' => e = .returned (.int .i64 (a ^ k % m)) ∧ ∃ d, w' = w.drewN d := by
 subst hn
 have hm1 : (1 : Int) % m < m := Int.emod_lt_of_pos _ Oo
 have hm0 : 0 ≤ (1 : Int) % m := Int.emod_nonneg _ Oo
 have hst : m < 1099511627776 ∨ (k = 0 ∧ a ≤ 2401 ∧ 1 % m ≤ 49) ∨ (k = 1 ∧ a ≤ 49 ∧ 1 % m ≤ 1) ∨ (k = 2 ∧ a ≤ 7 ∧ 1 % m ≤ 1) := by
  rcases hs with h | ⟨h1, h2⟩
  ·exact .inl h
  ·have : (1 : Int) % m ≤ 1 := by
    by_cases hm2 : m = 1
    ·subst hm2; decide
    ·rw [Int.emod_eq_of_lt Oo Oo]; omega
   refine .inr ?_; omega
 have HS := dd hst
 clear hst hs
 go_enter Tryz.func146, Tryz.ntmps146
 go_wp2
 go_loopw [1, 2, 7] (fun x i out wr => ∃ (y z : Int) (j : Nat) (d : Nat), x = .int .i64 y ∧ i = .int .i64 j ∧ out = .int .i64 z ∧ 0 ≤ y ∧ y < m ∧ 0 ≤ z ∧ z < m ∧ j ≤ 1000000000000 ∧ Hid (z * y ^ j % m = a ^ k % m) ∧ Hid (m < 1099511627776 ∨ (j = 0 ∧ y ≤ 2401 ∧ z ≤ 49) ∨ (j = 1 ∧ y ≤ 49 ∧ z ≤ 1) ∨ (j = 2 ∧ y ≤ 7 ∧ z ≤ 1)) ∧ wr = w.drewN d) (fun _ i _ _ => (intOf i).toNat)
 case atStart => exact ⟨a, 1 % m, k, 0, rfl, rfl, rfl, ha, ha', hm0, hm1, hk, dd (by rw [Int.mul_emod, Int.emod_emod_of_dvd _ (Int.dvd_refl m), ← Int.mul_emod, Int.one_mul]), HS, rfl⟩
 case round =>
  obtain ⟨y, z, j, d, rfl, rfl, rfl, hy, hy', hz, hz', hj, HE, HB, rfl⟩ := hrel; have hyy := qA6 (a := y * y) (show 0 < m by omega); have hzy := qA6 (a := z * y) (show 0 < m by omega); have hyyn : 0 ≤ y * y := Int.mul_nonneg hy hy; have hzyn : 0 ≤ z * y := Int.mul_nonneg hz hy
  by_cases h0 : 0 < j
  ·have B1 : m < 1099511627776 ∨ y * y < 18446744073709551616 := by
    rcases HB.out with h | h
    ·exact .inl h
    ·have : y * y ≤ 49 * 49 := Int.mul_le_mul Oo Oo hy Oo; exact .inr Oo
   have B2 : m < 1099511627776 ∨ z * y < 18446744073709551616 := by
    rcases HB.out with h | h
    ·exact .inl h
    ·have : z * y ≤ 1 * 49 := Int.mul_le_mul Oo Oo hy Oo; exact .inr Oo
   have N1 : y * y % m ≤ y * y := qLI hyyn Oo; have N2 : z * y % m ≤ z * y := qLI hzyn Oo
   have C1 : m < 1099511627776 ∨ (j = 1 ∧ y * y ≤ 2401 ∧ z * y ≤ 49) ∨ (j = 2 ∧ y * y ≤ 49 ∧ z ≤ 1) := by
    rcases HB.out with h | h | h | h
    ·exact .inl h
    ·omega
    ·have q1 : y * y ≤ 49 * 49 := Int.mul_le_mul h.2.1 h.2.1 hy Oo; have q2 : z * y ≤ 1 * 49 := Int.mul_le_mul h.2.2 h.2.1 hy Oo; exact .inr (.inl ⟨h.1, Oo, Oo⟩)
    ·have q1 : y * y ≤ 7 * 7 := Int.mul_le_mul h.2.1 h.2.1 hy Oo; exact .inr (.inr ⟨h.1, Oo, h.2.2⟩)
   have HN1 := dd N1; have HN2 := dd N2; have HC1 := dd C1; clear N1 N2 C1 hyyn hzyn; have HB1 := dd B1; have HB2 := dd B2; clear B1 B2; rcases Nat.mod_two_eq_zero_or_one j with hp | hp
   ·have hb : (((j : Int) % 2) == 1) = false := by simp; omega
    have Hp := dd hp; clear hp
    go_wp2_with fail
    refine (qIH m y y _ hm hm' hy hy hy' hy' HB1.out).mono ?_; rintro e w2 ⟨rfl, d2, rfl⟩; go_wp2; exact ⟨⟨_, _, j / 2, d + d2, rfl, by go_num, rfl, hyy.1, hyy.2, hz, hz', Oo, dd (by rw [qKg Hp.out]; exact HE.out), dd (by have := HC1.out; have := HN1.out; have := Hp.out; omega), by first | rfl | (simp [World.drewN_drewN]; done)⟩, by simp [intOf]; omega⟩
   ·have hb : (((j : Int) % 2) == 1) = true := by simp; omega
    have Hp := dd hp; clear hp
    go_wp2_with fail
    refine (qIH m z y _ hm hm' hz hy hz' hy' HB2.out).mono ?_; rintro e w2 ⟨rfl, d2, rfl⟩
    go_wp2_with fail
    refine (qIH m y y _ hm hm' hy hy hy' hy' HB1.out).mono ?_; rintro e w3 ⟨rfl, d3, rfl⟩; go_wp2; exact ⟨⟨_, _, j / 2, d + d2 + d3, rfl, by go_num, rfl, hyy.1, hyy.2, hzy.1, hzy.2, Oo, dd (by rw [qJu Hp.out]; exact HE.out), dd (by have := HC1.out; have := HN1.out; have := HN2.out; have := Hp.out; omega), by first | rfl | (simp [World.drewN_drewN]; done)⟩, by simp [intOf]; omega⟩
  ·obtain rfl : j = 0 := Oo; have he := HE.out; rw [Int.pow_zero, Int.mul_one, Int.emod_eq_of_lt hz hz'] at he; have He := dd he; clear he; go_wp2; go_ret; exact ⟨by rw [← He.out]; rfl, d, rfl⟩
theorem qQb (m a n : Int) (k : Nat) (w : World) (hn : n = k) (hm : 1 ≤ m) (hm' : m ≤ 1099511627776) (ha : 0 ≤ a) (ha' : a < m) (hk : k ≤ 1000000000000) (hs : m < 1099511627776 ∨ (a ≤ 7 ∧ k ≤ 2)) :
  Calls Tryz.prog 146 #[.int .i64 m, .int .i64 a, .int .i64 n] w fun e w' => e = .returned (.int .i64 (a ^ k % m)) ∧ Below w.heap.size w w' :=
 (qDQ m a n k w hn hm hm' ha ha' hk hs).mono fun e w' ⟨h1, d, h2⟩ => ⟨h1, bV h2⟩
theorem qGv (m a b : Int) (w : World) (hm : 1 ≤ m) (hm' : m < 1099511627776) (ha : 0 ≤ a) (hb : 0 ≤ b) (ha' : a < m) (hb' : b < m) :
  Calls Tryz.prog 145 #[.int .i64 m, .int .i64 a, .int .i64 b] w fun e w' => e = .returned (.int .i64 (a * b % m)) ∧ Below w.heap.size w w' :=
 (qEp m a b w hm hm' ha hb ha' hb').mono fun e w' ⟨h1, d, h2⟩ => ⟨h1, bV h2⟩

end
end Go.Proofs.YtfpphfjlpgefaaaGreat
