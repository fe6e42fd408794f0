/- Lemmas of LwP. -/
import Derived.Test.YtcjinlfgeljmkaaWSWvL
import Derived.Test.YtcjinlfgeljmkaaWSWittS
set_option linter.unusedSimpArgs false
set_option linter.unusedVariables false
namespace Go.Proofs.Ytcjinlfgeljmkaa
open Go.RowKit

structure Wt (p m : Int) (n : Nat) (xs : List Int) : Prop where
  ok : wittB p m xs = true
  len : xs.length = n
theorem Wt.mk' {p m : Int} {n : Nat} {xs zs : List Int} (h : Wt p m n xs) (hl : zs.length = n) (hz : ∀ x ∈ zs, 0 ≤ x ∧ x < m) : Wt p m n zs := by
  refine ⟨?_, hl⟩
  have := h.ok
  simp only [wittB, Bool.and_eq_true, List.all_eq_true] at this ⊢
  refine ⟨by rw [hl, ← h.len]; exact this.1, fun x hx => ?_⟩
  have := hz x hx
  simp [inB]; omega
theorem Wt.pos {p m : Int} {n : Nat} {xs : List Int} (h : Wt p m n xs) : 0 < m := by have := witt_m h.ok; omega
theorem Wt.x {p m : Int} {n : Nat} {xs : List Int} (h : Wt p m n xs) : ∀ x ∈ xs, 0 ≤ x ∧ x < m := witt_x h.ok
theorem Wt.n {p m : Int} {n : Nat} {xs : List Int} (h : Wt p m n xs) : 1 ≤ n ∧ n ≤ 4 := by have := witt_len h.ok; rw [h.len] at this; exact this
theorem Wt.op {p m : Int} {n : Nat} {xs ys : List Int} (h : Wt p m n xs) (k : Wt p m n ys) (t : Bool) : Wt p m n (opL p.toNat m xs ys t) ∧ opR t p m xs p m ys = ⟨p, m, opL p.toNat m xs ys t, 0⟩ := by
  refine ⟨h.mk' (by rw [opL_len, h.len]) (FL_range h.pos), ?_⟩
  have : twoC p m xs p m ys = 0 := by simp [twoC, h.ok, k.ok, alikeB, h.len, k.len]
  simp [opR, this]
theorem Wt.neg {p m : Int} {n : Nat} {xs : List Int} (h : Wt p m n xs) : Wt p m n (negL p.toNat m xs) ∧ negR p m xs = ⟨p, m, negL p.toNat m xs, 0⟩ :=
  ⟨h.mk' (by rw [negL_len, h.len]) (FL_range h.pos), by simp [negR, h.ok]⟩
theorem Wt.ghosts {p m : Int} {n : Nat} {xs : List Int} (h : Wt p m n xs) : ghostsR p m xs = ⟨ghL p.toNat m xs n, 0⟩ := by simp [ghostsR, h.ok, h.len]
theorem Wt.frob {p m : Int} {n : Nat} {xs : List Int} (h : Wt p m n xs) (h2 : 2 ≤ n) : Wt p m (n - 1) (frobL p.toNat m xs) ∧ frobR p m xs = ⟨p, m, frobL p.toNat m xs, 0⟩ := by
  have hl : (frobL p.toNat m xs).length = n - 1 := by rw [frobL_len, h.len]
  refine ⟨⟨?_, hl⟩, ?_⟩
  · have hw := h.ok
    have hx := FL_range (p := p.toNat) (m := m) h.pos (n := xs.length - 1) (G := fun k => gh p.toNat (at0 xs) (k + 1))
    have hn := h.n
    simp only [wittB, Bool.and_eq_true, List.all_eq_true] at hw ⊢
    refine ⟨?_, fun x hh => ?_⟩
    · have h1 := hw.1
      simp [shapeB] at h1 ⊢
      refine ⟨h1.1, ?_⟩
      rw [hl]
      simp [inB]; omega
    · have := hx x hh
      simp [inB]; omega
  · have : ((xs.length : Int) == 1) = false := by rw [h.len]; simp; omega
    simp [frobR, h.ok, this]
end Go.Proofs.Ytcjinlfgeljmkaa
