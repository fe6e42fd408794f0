/- Lemmas of HomJ. -/
import Derived.Test.YtdnkadlondediaaQcHomI
set_option linter.unusedSimpArgs false
set_option linter.unusedVariables false
namespace Go.Proofs.Ytdnkadlondediaa
open Go.RowKit

def OwZ (w : World) (B : Nat) (X : Nat → Prop) (v : Value) (m : Int) (xss : List (List Int)) : Prop :=
  ∃ us : List Value, us.length = xss.length ∧ w.ownsRow B 34 2 v xss.length (pairsV m us) ∧
    (∀ (k : Nat) (u : Value) (row : List Int), us[k]? = some u → xss[k]? = some row → ∃ lo hi, B ≤ lo ∧ (∀ b, X b → b < lo ∨ hi ≤ b) ∧ Rds lo hi w (fun x => RdI x u row) ∧ ∀ b : Nat, v.ownBlock = some b → b < lo ∨ hi ≤ b)
theorem OwZ.S {w : World} {B : Nat} {X : Nat → Prop} {v : Value} {m : Int} {xss : List (List Int)} (h : OwZ w B X v m xss) : OwLS w B v m xss := by
  obtain ⟨us, hl, hr, h1⟩ := h
  refine ⟨us, hl, hr, fun k u row hu hx => ?_⟩
  obtain ⟨lo, hi, h0, hX, h2, h3⟩ := h1 k u row hu hx
  exact ⟨lo, hi, h0, h2, h3⟩
theorem OwZ.nil (w : World) (m : Int) (X : Nat → Prop) : OwZ (w.alloc (.cells #[] 34)) w.heap.size X (.slice (some ⟨w.heap.size, 0, none⟩) 0 0) m [] :=
  ⟨[], rfl, World.ownsRow_lit (base := w.heap.size) (e := 34) (size := 2) w #[] 0 (Nat.le_refl _) (Nat.zero_le _) rfl, by simp⟩
theorem OwZ.stay {w w' : World} {B : Nat} {X : Nat → Prop} {v : Value} {m : Int} {xss : List (List Int)} (h : OwZ w B X v m xss) (hs : w.heap.size ≤ w'.heap.size) (hX : ∀ b, v.ownBlock = some b → ¬ X b) (hk : ∀ k, k < w.heap.size → ¬ X k → w'.heap[k]? = w.heap[k]?) : OwZ w' B X v m xss := by
  obtain ⟨us, hl, hr, h1⟩ := h
  refine ⟨us, hl, ⟨hr.1, ?_⟩, fun k u row hu hx => ?_⟩
  · rcases hr.2 with h | ⟨g, cap, cur, hv, hg, hh, r⟩
    · exact .inl h
    · have hlt : g < w.heap.size := (Array.getElem?_eq_some_iff.1 hh).1
      exact .inr ⟨g, cap, cur, hv, hg, by rw [hk g hlt (hX g (by rw [hv]; rfl))]; exact hh, r⟩
  · obtain ⟨lo, hi, h0, h2, h3, h4⟩ := h1 k u row hu hx
    refine ⟨lo, hi, h0, h2, ⟨Nat.le_trans h3.1 hs, fun x hx' => h3.2 x (fun j j1 j2 => (hx' j j1 j2).trans (hk j (Nat.lt_of_lt_of_le j2 h3.1) (fun hXj => by have := h2 j hXj; omega)))⟩, h4⟩

section
variable {ops : Array Oper} {rest : List Oper} {o : Oper} {a : Act} {Q : Exit → Act → World → Prop}
end

end Go.Proofs.Ytdnkadlondediaa
