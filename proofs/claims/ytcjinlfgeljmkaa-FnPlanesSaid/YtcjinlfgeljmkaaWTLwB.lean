/- Lemmas of LwB. -/
import Derived.Test.YtcjinlfgeljmkaaWTLwW
import Derived.Test.YtcjinlfgeljmkaaWTWittD
import Derived.Test.YtcjinlfgeljmkaaWTG2
import Derived.Test.YtcjinlfgeljmkaaWTG1
import Derived.Deep.RegionHeld3
set_option linter.unusedSimpArgs false
set_option linter.unusedVariables false
namespace Go.Proofs.Ytcjinlfgeljmkaa
open Go.RowKit

def WB (w : World) (b : Nat) (p m : Int) (v : Value) (xs : List Int) : Prop := Box3 w b (.int .i64 p) (.int .i64 m) v ∧ RdI w v xs
theorem WB.below {w w' : World} {b : Nat} {p m : Int} {v : Value} {xs : List Int} (h : WB w b p m v xs) (hb : Below w.heap.size w w') : WB w' b p m v xs := ⟨h.1.below hb (Nat.le_refl _), h.2.below hb (Nat.le_refl _)⟩
theorem WB.lt {w : World} {b : Nat} {p m : Int} {v : Value} {xs : List Int} (h : WB w b p m v xs) : b < w.heap.size := h.1.lt
theorem WB.mk1 (w : World) (p m : Int) (v : Value) (xs : List Int) (h : RdI w v xs) (t : TypeId) : WB (w.alloc (.cells #[.int .i64 p, .int .i64 m, v] t)) w.heap.size p m v xs := ⟨Box3.mk' w _ _ _ t, h.below (B := w.heap.size) ((Below.refl _ _).alloc (Nat.le_refl _) _) (Nat.le_refl _)⟩
def SB (w : World) (b : Nat) (m : Int) (v : Value) (xs : List Int) : Prop := Box2 w b (.int .i64 m) v ∧ RdI w v xs
theorem SB.below {w w' : World} {b : Nat} {m : Int} {v : Value} {xs : List Int} (h : SB w b m v xs) (hb : Below w.heap.size w w') : SB w' b m v xs := ⟨h.1.below hb (Nat.le_refl _), h.2.below hb (Nat.le_refl _)⟩
theorem SB.lt {w : World} {b : Nat} {m : Int} {v : Value} {xs : List Int} (h : SB w b m v xs) : b < w.heap.size := h.1.lt
theorem SB.mk1 (w : World) (m : Int) (v : Value) (xs : List Int) (h : RdI w v xs) (t : TypeId) : SB (w.alloc (.cells #[.int .i64 m, v] t)) w.heap.size m v xs := ⟨Box2.mk' w _ _ t, h.below (B := w.heap.size) ((Below.refl _ _).alloc (Nat.le_refl _) _) (Nat.le_refl _)⟩
def PB (w : World) (b : Nat) (m : Int) (v : Value) (xs : List (List Int)) : Prop := Box2 w b (.int .i64 m) v ∧ RdT w v xs
theorem PB.below {w w' : World} {b : Nat} {m : Int} {v : Value} {xs : List (List Int)} (h : PB w b m v xs) (hb : Below w.heap.size w w') : PB w' b m v xs := ⟨h.1.below hb (Nat.le_refl _), h.2.below hb (Nat.le_refl _)⟩
theorem PB.lt {w : World} {b : Nat} {m : Int} {v : Value} {xs : List (List Int)} (h : PB w b m v xs) : b < w.heap.size := h.1.lt
theorem PB.mk1 (w : World) (m : Int) (v : Value) (xs : List (List Int)) (h : RdT w v xs) (t : TypeId) : PB (w.alloc (.cells #[.int .i64 m, v] t)) w.heap.size m v xs := ⟨Box2.mk' w _ _ t, h.below (B := w.heap.size) ((Below.refl _ _).alloc (Nat.le_refl _) _) (Nat.le_refl _)⟩

end Go.Proofs.Ytcjinlfgeljmkaa
