/- Lemmas. -/
import Derived.Test.YtfpphfjlpgefaaaGreatDoorQCG2
import Derived.Test.YtfpphfjlpgefaaaGreatDoorQCG3
import Derived.Test.YtfpphfjlpgefaaaGreatDoorQCM2
import Derived.Lib.Strings
import Derived.Lib.Slices
import Derived.Lib.Small
import Derived.Lib.Walk
import Derived.Lib.BitFns
import Derived.Lib.Mul64
import Derived.Laws.Bits64b
import Derived.Test.YtfpphfjlpgefaaaGreatDoorQCG7
import Derived.Deep.AppendSrc
set_option linter.unusedSimpArgs false
set_option linter.unusedVariables false
namespace Go.Proofs.YtfpphfjlpgefaaaGreatDoor
open Go.RowKit

set_option maxHeartbeats 400000 in
theorem copyOfI_c (ad : Addr) (n c : Nat) (ys : List Int) (w : World) (hr : RdI w (.slice (some ad) n c) ys) (hn : ys.length ≤ 1048576) :
    Calls Tryz.prog 66 #[.slice (some ad) n c] w fun e w' => ∃ v', e = .returned v' ∧ OwI w' w.heap.size v' ys ∧ Below w.heap.size w w' := by
  have hr' := hr.below (w' := w.alloc (.cells #[] 2)) ((by (repeat (first | exact bR _ _ | (refine bS ?_ _) | (refine bA ?_ _) | (refine bN ?_ _) | (refine bD ?_))))) (Nat.le_refl _)
  go_enter Tryz.func66, Tryz.ntmps66
  go_wp2_with (at_builtin; refine apR _ rfl _ _ rfl w.heap.size _ [] rfl (OwI.lit w [] (Nat.zero_le _)) ad n c ys rfl hr' (by simp; omega) (by simp) ?_; intro o1 c1 w1 how hgr hb; clear hgr)
  go_ret
  exact ⟨_, rfl, how, by refine Below.trans ?_ hb; (repeat (first | exact bR _ _ | (refine bS ?_ _) | (refine bA ?_ _) | (refine bN ?_ _) | (refine bD ?_)))⟩

end Go.Proofs.YtfpphfjlpgefaaaGreatDoor
/- Inverses modulo a number, by Euclid's algorithm, and common divisors: the program and the reference. -/
set_option linter.unusedSimpArgs false
set_option linter.unusedVariables false
namespace Go.Proofs.YtfpphfjlpgefaaaGreatDoor
open Go.RowKit

set_option maxHeartbeats 1000000 in
theorem inverse_c (m a : Int) (w : World) (hm : 2 ≤ m) (hm' : m ≤ 1000000000000) (ha : -9000000000000000000 ≤ a) (ha' : a ≤ 9000000000000000000) :
    Calls Tryz.prog 69 #[.int .i64 m, .int .i64 a] w fun e w' => e = .returned (.int .i64 (invM m a)) ∧ w = w' := by
  have hA := mod_lt' (a := a) (show 0 < m by omega)
  have hst := EuI.start (m := m.toNat) (a := (a % m).toNat) (by omega)
  go_enter Tryz.func69, Tryz.ntmps69
  go_wp2_with (go_at_call 71; refine (mod_c _ _ _ (by omega) (by omega) (by omega) (by omega)).mono ?_; rintro e w' ⟨rfl, rfl⟩)
  go_loop [5, 6, 7, 8] (fun x y r s => ∃ (R S : Nat) (X Y : Int), r = .int .i64 R ∧ s = .int .i64 S ∧ x = .int .i64 X ∧ y = .int .i64 Y ∧ EuI m.toNat R S X Y ∧ Hid (eu R S X Y = eu m.toNat (a % m).toNat 0 1)) (fun x y r s => (intOf s).toNat)
  case atStart => exact ⟨m.toNat, (a % m).toNat, 0, 1, by rw [Int.toNat_of_nonneg (by omega)], by rw [Int.toNat_of_nonneg (by omega)], rfl, rfl, hst, Lib.hid rfl⟩
  case round =>
    obtain ⟨R, S, X, Y, rfl, rfl, rfl, rfl, hE, HE⟩ := hrel
    have hb := hE.bounds
    have hle := hE.le
    have hlt := hE.lt
    by_cases hs : S = 0
    · subst hs
      have HR := Lib.hid (show X % m = invM m a by unfold invM; rw [← HE.out, eu_0])
      have hX := hE.bx
      go_wp2_with (go_at_call 71; refine (mod_c _ _ _ (by omega) (by omega) (by omega) (by omega)).mono ?_; rintro e w' ⟨rfl, rfl⟩)
      go_ret
      exact ⟨by rw [← HR.out]; rfl, rfl⟩
    · have hp := hE.prod hs
      have hb2 := (hE.step hs).bounds
      have hx := hE.bx
      have hq0 : (0 : Int) ≤ ((R / S : Nat) : Int) := Int.natCast_nonneg _
      have hqn : R / S ≤ m.toNat := Nat.le_trans (Nat.div_le_self R S) hle
      have hqm : ((R / S : Nat) : Int) ≤ m := by
        generalize R / S = Q at hqn
        omega
      have e1 : (R : Int).tdiv (S : Int) = ((R / S : Nat) : Int) := by rw [Int.tdiv_eq_ediv_of_nonneg (by omega)]; rfl
      have e2 : (R : Int) - ((R / S : Nat) : Int) * (S : Int) = ((R % S : Nat) : Int) := by
        have e := Nat.div_add_mod R S
        have : ((S * (R / S) + R % S : Nat) : Int) = (R : Int) := by rw [e]
        push_cast at this ⊢; grind
      have e3 : ((R / S : Nat) : Int) * (S : Int) ≤ (R : Int) := by
        have : (0 : Int) ≤ ((R % S : Nat) : Int) := by omega
        omega
      have e4 : 0 ≤ ((R / S : Nat) : Int) * (S : Int) := Int.mul_nonneg hq0 (by omega)
      have s0 : ((S : Int) == 0) = false := by simp; omega
      have s1 : ¬ (S : Int) = 0 := by omega
      have s2 : (0 : Int) < (S : Int) := by omega
      have hst2 := hE.step hs
      have HE2 := Lib.hid (show eu S (R % S) Y (X - ((R / S : Nat) : Int) * Y) = eu m.toNat (a % m).toNat 0 1 by rw [← eu_s hs]; exact HE.out)
      have hml := Nat.mod_lt R (show 0 < S by omega)
      clear hs
      generalize ((R / S : Nat) : Int) = q at *
      go_wp2
      exact ⟨⟨S, R % S, Y, X - q * Y, rfl, by rw [← e2]; go_num, rfl, by go_num, hst2, HE2⟩, by simp [intOf]; omega⟩

end Go.Proofs.YtfpphfjlpgefaaaGreatDoor

/- Units: common divisors, and what asks for them. -/
set_option linter.unusedSimpArgs false
set_option linter.unusedVariables false
namespace Go.Proofs.YtfpphfjlpgefaaaGreatDoor
open Go.RowKit

end Go.Proofs.YtfpphfjlpgefaaaGreatDoor
/- The numerators of a typical logarithm: the program. -/
set_option linter.unusedSimpArgs false
set_option linter.unusedVariables false
namespace Go.Proofs.YtfpphfjlpgefaaaGreatDoor
open Go.RowKit

end Go.Proofs.YtfpphfjlpgefaaaGreatDoor

/- append(xs, make([]int64, q)...), xs the call's own, q at most three. -/
set_option linter.unusedSimpArgs false
set_option linter.unusedVariables false
namespace Go.Proofs.YtfpphfjlpgefaaaGreatDoor
open Go.RowKit
open Go

end Go.Proofs.YtfpphfjlpgefaaaGreatDoor

/- The parameters, made three. -/
set_option linter.unusedSimpArgs false
set_option linter.unusedVariables false
namespace Go.Proofs.YtfpphfjlpgefaaaGreatDoor
open Go.RowKit
open Go

end Go.Proofs.YtfpphfjlpgefaaaGreatDoor

/- Typical laws, the reference: powers, numerators. -/
set_option linter.unusedSimpArgs false
set_option linter.unusedVariables false
namespace Go.Proofs.YtfpphfjlpgefaaaGreatDoor
open Go.RowKit

def mostOf (p n : Nat) : Nat := if p * p * p ≤ n then 3 else if p * p ≤ n then 2 else if p ≤ n then 1 else 0
theorem most_key {p n : Nat} (hp : P4 p) (hn : n ≤ 10) {j : Nat} (hj : j ≤ mostOf p n) : p ^ j ≤ 10 ∧ j ≤ 3 ∧ (p ^ (j + 1) ≤ n ↔ j < mostOf p n) ∧ p ^ (j + 1) ≤ 100 := by
  revert hj
  have hnn : n = 0 ∨ n = 1 ∨ n = 2 ∨ n = 3 ∨ n = 4 ∨ n = 5 ∨ n = 6 ∨ n = 7 ∨ n = 8 ∨ n = 9 ∨ n = 10 := by omega
  rcases hp with rfl | rfl | rfl | rfl <;>
    rcases hnn with rfl | rfl | rfl | rfl | rfl | rfl | rfl | rfl | rfl | rfl | rfl <;> (revert j; decide)
end Go.Proofs.YtfpphfjlpgefaaaGreatDoor

/- Typical laws, the reference: numerators. -/
set_option linter.unusedSimpArgs false
set_option linter.unusedVariables false
namespace Go.Proofs.YtfpphfjlpgefaaaGreatDoor
open Go.RowKit

end Go.Proofs.YtfpphfjlpgefaaaGreatDoor
set_option linter.unusedSimpArgs false
set_option linter.unusedVariables false
namespace Go.Proofs.YtfpphfjlpgefaaaGreatDoor
open Go.RowKit

section
variable {ops : Array Oper} {rest : List Oper} {o : Oper} {a : Act} {Q : Exit → Act → World → Prop}
end
def Lk (v : Value) (w : World) (F : World → Prop) : Prop := ∃ lo hi, Rds lo hi w F ∧ ∀ b, v.ownBlock = some b → b < lo ∨ hi ≤ b
theorem Lk.now {v : Value} {w : World} {F : World → Prop} (h : Lk v w F) : F w := by obtain ⟨lo, hi, h, -⟩ := h; exact h.now
theorem Lk.grown {v v' : Value} {w w' : World} {F : World → Prop} (h : Lk v w F) (hg : w.grownBy w' v.ownBlock) (hv : ∀ b, v'.ownBlock = some b → v.ownBlock = some b ∨ w.heap.size ≤ b) : Lk v' w' F := by
  obtain ⟨lo, hi, h, h1⟩ := h
  refine ⟨lo, hi, h.grown hg (fun b hb => h1 b hb), fun b hb => ?_⟩
  rcases hv b hb with e | e
  · exact h1 b e
  · have := h.1; exact .inr (by omega)
theorem Lk.below {v : Value} {w w' : World} {F : World → Prop} (h : Lk v w F) (hb : Below w.heap.size w w') : Lk v w' F := by
  obtain ⟨lo, hi, h, h1⟩ := h
  exact ⟨lo, hi, h.below hb, h1⟩
theorem Lk.of {v : Value} {w : World} {F : World → Prop} {lo hi : Nat} (h : Rds lo hi w F) (hv : ∀ b, v.ownBlock = some b → b < lo ∨ hi ≤ b) : Lk v w F := ⟨lo, hi, h, hv⟩
theorem RdT.rds {w : World} {v : Value} {xss : List (List Int)} (h : RdT w v xss) : Rds 0 w.heap.size w (fun u => RdT u v xss) := by
  obtain ⟨us, hu⟩ := Lives.rdT h
  exact ⟨Nat.le_refl _, fun u hk => (hu.stay w u hk hu.now).rd⟩
end Go.Proofs.YtfpphfjlpgefaaaGreatDoor
