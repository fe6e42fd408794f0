/- Lemmas of HomL. -/
import Derived.Test.YtdnkadlondediaaQcHomK
set_option linter.unusedSimpArgs false
set_option linter.unusedVariables false
namespace Go.Proofs.Ytdnkadlondediaa
open Go.RowKit

structure St6 (m : Int) (b : Nat) (w : World) (tv sv : Value) (w6 : World) : Prop where
  bel : Below b w w6
  size : w6.heap.size = b + 6
  F : Box2 w6 b (.int .i64 m) tv
  G : Box2 w6 (b + 1) (.int .i64 m) sv
  one : Cel1 w6 (b + 2) 0 (.bool false)
  fin : Cel1 w6 (b + 3) 0 (.func (.func 103) #[] #[])
  out : Cel1 w6 (b + 5) 0 (.slice (some ⟨b + 4, 0, none⟩) 0 0)
  fz : ∀ k, w6.frozen? ⟨b + 5, k, none⟩ = false
  own : ∀ X : Nat → Prop, ¬ X (b + 4) → OwZ w6 (b + 4) X (.slice (some ⟨b + 4, 0, none⟩) 0 0) m []
theorem St6.mk' (m : Int) (b : Nat) (w : World) (tv sv : Value) (hb : w.heap.size = b) : St6 m b w tv sv ((((((w.alloc (.cells #[.int .i64 m, tv] 32)).alloc (.cells #[.int .i64 m, sv] 32)).alloc (.cells #[.bool false] 4)).alloc (.cells #[.func (.func 103) #[] #[]] 85)).alloc (.cells #[] 34)).alloc (.cells #[.slice (some ⟨b + 1 + 1 + 1 + 1, 0, none⟩) 0 0] 58)) := by
  have c1 : ∀ (u : World) (x : Value) (t : TypeId), Cel1 (u.alloc (.cells #[x] t)) u.heap.size 0 x := fun u x t => ⟨by simp⟩
  have al : ∀ (u : World) (o : Obj), Below u.heap.size u (u.alloc o) := fun u o => (by (repeat (first | exact Below.refl _ _ | (refine Below.setCell ?_ (by first | (simp; done) | (simp; omega) | omega) _) | (refine Below.alloc ?_ (by first | (simp; done) | (simp; omega) | omega) _) | (refine below_drewN ?_ _) | (refine Below.drew ?_))))
  have sz : ∀ (u : World) (o : Obj), (u.alloc o).heap.size = u.heap.size + 1 := fun u o => by simp
  have kb : ∀ {u : World} {g : Nat} {x y : Value} (o : Obj), Box2 u g x y → Box2 (u.alloc o) g x y := fun o h => h.below (al _ _) (Nat.le_refl _)
  have kc : ∀ {u : World} {g : Nat} {x : Value} (o : Obj), Cel1 u g 0 x → Cel1 (u.alloc o) g 0 x := fun o h => h.below (al _ _) (Nat.le_refl _)
  generalize h1 : w.alloc (.cells #[.int .i64 m, tv] 32) = w1
  have F1 : Box2 w1 b (.int .i64 m) tv := by rw [← h1, ← hb]; exact Box2.mk' _ _ _ _
  have B1 : Below b w w1 := by rw [← h1, ← hb]; exact al _ _
  have s1 : w1.heap.size = b + 1 := by rw [← h1, sz, hb]
  clear h1
  generalize h2 : w1.alloc (.cells #[.int .i64 m, sv] 32) = w2
  have F2 : Box2 w2 b (.int .i64 m) tv := by rw [← h2]; exact kb _ F1
  have G2 : Box2 w2 (b + 1) (.int .i64 m) sv := by rw [← h2, ← s1]; exact Box2.mk' _ _ _ _
  have B2 : Below b w w2 := by rw [← h2]; exact B1.trans ((al _ _).mono (by omega))
  have s2 : w2.heap.size = b + 2 := by rw [← h2, sz, s1]
  clear h2 F1 B1
  generalize h3 : w2.alloc (.cells #[.bool false] 4) = w3
  have F3 : Box2 w3 b (.int .i64 m) tv := by rw [← h3]; exact kb _ F2
  have G3 : Box2 w3 (b + 1) (.int .i64 m) sv := by rw [← h3]; exact kb _ G2
  have O3 : Cel1 w3 (b + 2) 0 (.bool false) := by rw [← h3, ← s2]; exact c1 _ _ _
  have B3 : Below b w w3 := by rw [← h3]; exact B2.trans ((al _ _).mono (by omega))
  have s3 : w3.heap.size = b + 3 := by rw [← h3, sz, s2]
  clear h3 F2 G2 B2
  generalize h4 : w3.alloc (.cells #[.func (.func 103) #[] #[]] 85) = w4
  have F4 : Box2 w4 b (.int .i64 m) tv := by rw [← h4]; exact kb _ F3
  have G4 : Box2 w4 (b + 1) (.int .i64 m) sv := by rw [← h4]; exact kb _ G3
  have O4 : Cel1 w4 (b + 2) 0 (.bool false) := by rw [← h4]; exact kc _ O3
  have A4 : Cel1 w4 (b + 3) 0 (.func (.func 103) #[] #[]) := by rw [← h4, ← s3]; exact c1 _ _ _
  have B4 : Below b w w4 := by rw [← h4]; exact B3.trans ((al _ _).mono (by omega))
  have s4 : w4.heap.size = b + 4 := by rw [← h4, sz, s3]
  clear h4 F3 G3 O3 B3
  have Z5 := fun X => OwZ.nil w4 m X
  generalize h5 : w4.alloc (.cells #[] 34) = w5 at Z5 ⊢
  rw [s4] at Z5
  have s5 : w5.heap.size = b + 5 := by rw [← h5, sz, s4]
  have e5 : Below w4.heap.size w4 w5 := by rw [← h5]; exact al _ _
  have e6 := al w5 (.cells #[.slice (some ⟨b + 1 + 1 + 1 + 1, 0, none⟩) 0 0] 58)
  have e56 : Below w4.heap.size w4 (w5.alloc (.cells #[.slice (some ⟨b + 1 + 1 + 1 + 1, 0, none⟩) 0 0] 58)) := e5.trans (e6.mono (by omega))
  refine ⟨B4.trans (e56.mono (by omega)), by rw [sz, s5], F4.below e56 (Nat.le_refl _), G4.below e56 (Nat.le_refl _), O4.below e56 (Nat.le_refl _), A4.below e56 (Nat.le_refl _), ?_, fun k => ?_, fun X hX => ?_⟩
  · rw [← s5]; exact c1 _ _ _
  · rw [← s5]; exact frozen_new _ _ _ _
  · refine (Z5 X).stay e6.size (fun j hj => ?_) (fun k hk _ => e6.block k hk)
    obtain rfl : b + 4 = j := by simpa [Value.ownBlock] using hj
    exact hX

end Go.Proofs.Ytdnkadlondediaa
