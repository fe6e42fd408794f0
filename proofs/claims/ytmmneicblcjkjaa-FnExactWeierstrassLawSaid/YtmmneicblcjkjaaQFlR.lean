/- Lemmas of FlR. -/
import Derived.Test.YtmmneicblcjkjaaQLinF
import Derived.Test.YtmmneicblcjkjaaQPlaM
import Derived.Test.YtmmneicblcjkjaaQSRev
import Derived.Test.YtmmneicblcjkjaaQG2
set_option linter.unusedSimpArgs false
set_option linter.unusedVariables false
namespace Go.Proofs.Ytmmneicblcjkjaa
open Go.RowKit

def Put2 (R : World → Prop) (u : World) (b : Nat) : Prop := ∀ x y, R ((u.setCell ⟨b, 0, none⟩ x).setCell ⟨b, 1, none⟩ y)
theorem OwS.flOld {u : World} {B b : Nat} {v : Value} {t : List (List Int)} (h : OwS u B v t) (hb : b < B) : Put2 (fun w => RdT w v t) u b := fun x y => ((h.low hb x).low hb y).rd
theorem OwS.flNew {u : World} {B : Nat} {v : Value} {t : List (List Int)} (h : OwS u B v t) (Z : Obj) : Put2 (fun w => RdT w v t) (u.alloc Z) u.heap.size := fun x y => (((h.ra Z).put (.inr (Nat.le_refl _)) 0 x).put (.inr (Nat.le_refl _)) 1 y).rd
theorem OwI.flOld {u : World} {B b : Nat} {v : Value} {t : List Int} (h : OwI u B v t) (hb : b < B) : Put2 (fun w => RdI w v t) u b := fun x y => ((h.low (a := ⟨b, 0, none⟩) hb x).low (a := ⟨b, 1, none⟩) hb y).rd
theorem OwI.flNew {u : World} {B : Nat} {v : Value} {t : List Int} (h : OwI u B v t) (Z : Obj) : Put2 (fun w => RdI w v t) (u.alloc Z) u.heap.size := fun x y =>
  (((h.alloc Z).ne (b := u.heap.size) (fun j hj => by have := (h.lt j hj).2; omega) x).ne (b := u.heap.size) (fun j hj => by have := (h.lt j hj).2; omega) y).rd
theorem OwSR.bel2 {lo hi : Nat} {w u : World} {v : Value} {xss : List (List Int)} (h : OwSR lo hi w v xss) (hb : Below hi w u) : OwSR lo hi u v xss :=
  h.stay (fun k _ hk => hb.block k hk)
def LiveE (b : Nat) (R : World → Prop) (u : World) : Prop := ∀ u' : World, (∀ k, k < u.heap.size → k ≠ b → u'.heap[k]? = u.heap[k]?) → R u'
theorem OwSR.live {lo hi b : Nat} {u : World} {v : Value} {t : List (List Int)} (h : OwSR lo hi u v t) (hb : b < lo ∨ hi ≤ b) (hs : hi ≤ u.heap.size) : LiveE b (fun w => RdT w v t) u :=
  fun u' hk => (h.stay (fun k h1 h2 => hk k (by omega) (by omega))).rd
theorem LiveE.grown {b : Nat} {R : World → Prop} {u u' : World} (h : LiveE b R u) (hg : u.grownBy u' (some b)) : R u' := h u' (fun k hk hne => hg.block k hk (fun e => hne (by cases e; rfl)))
def Bel (w w' : World) : Prop := Below w.heap.size w w'
theorem Bel.refl (w : World) : Bel w w := Below.refl _ _
theorem Bel.alloc {w w' : World} (h : Bel w w') (o : Obj) : Bel w (w'.alloc o) := Below.alloc h h.size o
def FlB (N : Nat) (u : World) (b : Nat) : Prop := RB2 u b (.int .i64 0) (.slice none 0 0) ∧ N ≤ b
theorem FlB.below {N B : Nat} {u u' : World} {b : Nat} (h : FlB N u b) (hb : Below B u u') (hB : u.heap.size ≤ B) : FlB N u' b := ⟨h.1.below hb hB, h.2⟩
theorem FlB.new {N : Nat} {u : World} {t : TypeId} (h : N ≤ u.heap.size) : FlB N (u.alloc (.cells #[.int .i64 0, .slice none 0 0] t)) u.heap.size := ⟨RB2.mk1 u _ _ t, h⟩
theorem FlB.lt {N : Nat} {u : World} {b : Nat} (h : FlB N u b) : b < u.heap.size := h.1.1.lt
def FlE (N : Nat) (R : World → Prop) (u : World) (b : Nat) : Prop := FlB N u b ∧ Put2 R u b
end Go.Proofs.Ytmmneicblcjkjaa
