/- Readings that live on while nothing is written in a part of the heap. -/
import Derived.Test.YtflebfmkgmhccaaLive
set_option linter.unusedSimpArgs false
set_option linter.unusedVariables false
namespace Go.Proofs.Ytflebfmkgmhccaa
open Go.RowKit

/-- Reading, which lives on while nothing is written in a part of the heap. -/
def Rds (lo hi : Nat) (w : World) (R : World → Prop) : Prop := hi ≤ w.heap.size ∧ ∀ u : World, (∀ k, lo ≤ k → k < hi → u.heap[k]? = w.heap[k]?) → R u
theorem Rds.now {lo hi : Nat} {w : World} {R : World → Prop} (h : Rds lo hi w R) : R w := h.2 w (fun _ _ _ => rfl)
theorem Rds.grown {lo hi : Nat} {w w' : World} {R : World → Prop} {r : Option Nat} (h : Rds lo hi w R) (hg : w.grownBy w' r) (hr : ∀ b, r = some b → b < lo ∨ hi ≤ b) : Rds lo hi w' R :=
  ⟨Nat.le_trans h.1 hg.size, fun u hu => h.2 u (fun k h1 h2 => (hu k h1 h2).trans (hg.block k (Nat.lt_of_lt_of_le h2 h.1) (fun e => by have := hr k e.symm; omega)))⟩
theorem Rds.below {lo hi : Nat} {w w' : World} {R : World → Prop} (h : Rds lo hi w R) (hb : Below w.heap.size w w') : Rds lo hi w' R :=
  ⟨Nat.le_trans h.1 hb.size, fun u hu => h.2 u (fun k h1 h2 => (hu k h1 h2).trans (hb.block k (Nat.lt_of_lt_of_le h2 h.1)))⟩
theorem Rds.belowB {lo hi B : Nat} {w w' : World} {R : World → Prop} (h : Rds lo hi w R) (hb : Below B w w') (hB : hi ≤ B) : Rds lo hi w' R :=
  ⟨Nat.le_trans h.1 hb.size, fun u hu => h.2 u (fun k h1 h2 => (hu k h1 h2).trans (hb.block k (by omega)))⟩
theorem Rds.put {lo hi : Nat} {w : World} {R : World → Prop} (h : Rds lo hi w R) {b : Nat} (hb : b < lo ∨ hi ≤ b) (k : Nat) (u : Value) : Rds lo hi (w.setCell ⟨b, k, none⟩ u) R :=
  h.grown (grown_put w b k u) (fun j hj => by cases hj; exact hb)
theorem OwI.rds {w : World} {B : Nat} {v : Value} {xs : List Int} (h : OwI w B v xs) (hB : B ≤ w.heap.size) : Rds B w.heap.size w (fun u => RdI u v xs) :=
  ⟨Nat.le_refl _, fun u hu => ((Lives.owI h hB).stay w u hu h).rd⟩
theorem RdI.rds {w : World} {v : Value} {xs : List Int} (h : RdI w v xs) : Rds 0 w.heap.size w (fun u => RdI u v xs) :=
  ⟨Nat.le_refl _, fun u hu => (Lives.rdI h).stay w u hu h⟩
end Go.Proofs.Ytflebfmkgmhccaa
