/- Lemmas of Do. -/
import Derived.Test.YtcjinlfgeljmkaaWMWittE
import Derived.Deep.DeepCutAuto
set_option linter.unusedSimpArgs false
set_option linter.unusedVariables false
namespace Go.Proofs.Ytcjinlfgeljmkaa
open Go.RowKit

def opG (p : Nat) (x y : Nat → Int) (t : Bool) (k : Nat) : Int := if t then gh p x k * gh p y k else gh p x k + gh p y k
theorem opG_ex {p : Nat} (hp : P4 p) (x y : Nat → Int) (t : Bool) (n : Nat) : ∃ z, ∀ k, k < n → gh p z k = opG p x y t k := by
  have hx := Gs.gh p (fun i => 2 * i)
  have hy := Gs.gh p (fun i => 2 * i + 1)
  have e1 : ∀ k, gh p (fun i => (fun j => if j % 2 = 0 then x (j / 2) else y (j / 2)) (2 * i)) k = gh p x k := fun k => by
    congr 1; funext i; simp
  have e2 : ∀ k, gh p (fun i => (fun j => if j % 2 = 0 then x (j / 2) else y (j / 2)) (2 * i + 1)) k = gh p y k := fun k => by
    congr 1; funext i
    simp only [show (2 * i + 1) % 2 = 1 by omega, show (2 * i + 1) / 2 = i by omega]
    simp
  cases t
  · obtain ⟨z, hz⟩ := op_ex hp (hx.add hy) n (fun j => if j % 2 = 0 then x (j / 2) else y (j / 2))
    exact ⟨z, fun k hk => by rw [hz k hk, e1, e2]; rfl⟩
  · obtain ⟨z, hz⟩ := op_ex hp (hx.mul hy) n (fun j => if j % 2 = 0 then x (j / 2) else y (j / 2))
    exact ⟨z, fun k hk => by rw [hz k hk, e1, e2]; rfl⟩

def opL (p : Nat) (m : Int) (xs ys : List Int) (t : Bool) : List Int := FL p m xs.length (opG p (at0 xs) (at0 ys) t)
theorem opL_len (p : Nat) (m : Int) (xs ys : List Int) (t : Bool) : (opL p m xs ys t).length = xs.length := FL_len _ _ _ _

theorem Box3.put {w : World} {b : Nat} {x y z : Value} (h : Box3 w b x y z) {a : Addr} (ha : a.block ≠ b) (u : Value) : Box3 (w.setCell a u) b x y z :=
  ⟨(World.cell?_setCell_other w a ⟨b, 0, none⟩ u (fun e => ha (by first | simp [e] | simp [← e]))).trans h.1,
   (World.cell?_setCell_other w a ⟨b, 1, none⟩ u (fun e => ha (by first | simp [e] | simp [← e]))).trans h.2.1,
   (World.cell?_setCell_other w a ⟨b, 2, none⟩ u (fun e => ha (by first | simp [e] | simp [← e]))).trans h.2.2⟩

end Go.Proofs.Ytcjinlfgeljmkaa
