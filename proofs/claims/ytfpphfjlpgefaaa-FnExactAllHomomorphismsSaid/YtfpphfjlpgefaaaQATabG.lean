/- Lemmas. -/
import Derived.Test.YtfpphfjlpgefaaaQAG2
set_option linter.unusedSimpArgs false
set_option linter.unusedVariables false
namespace Go.Proofs.Ytfpphfjlpgefaaa
open Go.RowKit

section
variable {ops : Array Oper} {rest : List Oper} {o : Oper} {a : Act} {Q : Exit → Act → World → Prop}
theorem wpApG {K : Act → World → Prop} (W : World) (s x : Operand) (hop : o.op = .call { callee := .builtin .append, args := #[s, x], argTypes := #[22, 22] })
    (B F : Nat) (v : Value) (xss : List (List Int)) (hs : a.eval s = v) (hown : OwSR B F W v xss) (hF : F ≤ W.heap.size) (hBF : B ≤ F) (u : Value) (row : List Int) (k : Nat) (hx : a.eval x = .slice (some ⟨k, 0, none⟩) 1 1)
    (hcell : W.cell? ⟨k, 0, none⟩ = some u) (hu : OwI W F u row) (hn : xss.length < 1048576)
    (hK : ∀ g cap w', OwS w' B (.slice (some ⟨g, 0, none⟩) (xss.length + 1) cap) (xss ++ [row]) → W.grownBy w' v.ownBlock → Below B W w' → (v.ownBlock = some g ∨ g = W.heap.size) → K (a.put o.dst (.slice (some ⟨g, 0, none⟩) (xss.length + 1) cap)) w') :
    Oper.wp Try.prog o a W K Q := by
  obtain ⟨i0, hi, hz0, hz1, hz2⟩ := info_parts info_s
  obtain ⟨us, hl, hr, h1, h2, h3, h4, h5⟩ := hown
  obtain ⟨ou, cu, hush⟩ := hu.shape
  refine wp_append_lies W s x 22 hop B 39 i0 (.slice none 0 0) 1 24 Try.underlying22 hi hz0 hz1 hz2 rfl (by decide) v xss.length us hs hr ⟨k, 0, none⟩ 1 1 [u] hx rfl (fun j u' hj => ?_) (fun u' hu' => ?_) (by decide) (by unfold maxLen; omega) (by omega) (by omega) W.heap.size rfl ?_
  · match j with
    | 0 => simp at hj; subst hj; simpa [Addr.add] using hcell
    | j + 1 => simp at hj
  · simp at hu'; subst hu'; rw [hush]; rfl
  · intro g cap w' hown' hgrow hlies hglt
    have hul := hu.lt
    have hgb : Below B W w' := Below.grown (Below.refl B W) hgrow (by omega) (fun b hb => (hr.lt b hb).1)
    have hrowlt : ∀ (i : Nat) (u' : Value) (b : Nat), us[i]? = some u' → u'.ownBlock = some b → b < F := h5
    refine hK g cap w' ⟨us ++ [u], by simp [hl], by rw [List.length_append]; exact hown', fun i u' r hi' hxi => ?_, fun i j u1 u2 b hi1 hj1 hb1 hb2 => ?_, fun i u' b hi' hb hv => ?_⟩ hgrow hgb hlies
    · rw [List.getElem?_append] at hi' hxi
      by_cases hil : i < us.length
      · rw [if_pos hil] at hi'
        rw [if_pos (by omega)] at hxi
        refine (h1 i u' r hi' hxi).kept hgrow ?_
        cases e : u'.ownBlock with
        | none => exact .inl rfl
        | some b => exact .inr fun e' => h3 i u' b hi' e e'.symm
      · rw [if_neg hil] at hi'
        rw [if_neg (by omega)] at hxi
        have e1 : i - us.length = 0 := by
          have := (List.getElem?_eq_some_iff.1 hi').1; simp at this; omega
        rw [show i - xss.length = 0 by omega] at hxi
        rw [e1] at hi'
        simp at hi' hxi
        subst hi' hxi
        refine (hu.mono hBF).kept hgrow ?_
        cases e : u.ownBlock with
        | none => exact .inl rfl
        | some b => exact .inr fun e' => by have := (hul b e).1; have := h4 b e'.symm; omega
    · rw [List.getElem?_append] at hi1 hj1
      by_cases hil : i < us.length <;> by_cases hjl : j < us.length
      · rw [if_pos hil] at hi1; rw [if_pos hjl] at hj1; exact h2 i j u1 u2 b hi1 hj1 hb1 hb2
      · rw [if_pos hil] at hi1; rw [if_neg hjl] at hj1
        have : j - us.length = 0 := by have := (List.getElem?_eq_some_iff.1 hj1).1; simp at this; omega
        rw [this] at hj1; simp at hj1; subst hj1
        have := h5 i u1 b hi1 hb1; have := (hul b hb2).1; omega
      · rw [if_neg hil] at hi1; rw [if_pos hjl] at hj1
        have : i - us.length = 0 := by have := (List.getElem?_eq_some_iff.1 hi1).1; simp at this; omega
        rw [this] at hi1; simp at hi1; subst hi1
        have := h5 j u2 b hj1 hb2; have := (hul b hb1).1; omega
      · rw [if_neg hil] at hi1; rw [if_neg hjl] at hj1
        have := (List.getElem?_eq_some_iff.1 hi1).1; have := (List.getElem?_eq_some_iff.1 hj1).1
        simp at *; omega
    · have hvg : b = g := by simp [Value.ownBlock] at hv; exact hv.symm
      subst hvg
      rw [List.getElem?_append] at hi'
      by_cases hil : i < us.length
      · rw [if_pos hil] at hi'
        rcases hlies with hl' | hl'
        · exact h3 i u' b hi' hb hl'
        · have := h5 i u' b hi' hb; omega
      · rw [if_neg hil] at hi'
        have : i - us.length = 0 := by have := (List.getElem?_eq_some_iff.1 hi').1; simp at this; omega
        rw [this] at hi'; simp at hi'; subst hi'
        rcases hlies with hl' | hl'
        · have := h4 b hl'; have := (hul b hb).1; omega
        · have := (hul b hb).2; omega
theorem apG (W : World) (hg : o.guard = none) (s x : Operand) (hop : o.op = .call { callee := .builtin .append, args := #[s, x], argTypes := #[22, 22] })
    (B F : Nat) (v : Value) (xss : List (List Int)) (hs : a.eval s = v) (hown : OwSR B F W v xss) (hF : F ≤ W.heap.size) (hBF : B ≤ F) (u : Value) (row : List Int) (k : Nat) (hx : a.eval x = .slice (some ⟨k, 0, none⟩) 1 1)
    (hcell : W.cell? ⟨k, 0, none⟩ = some u) (hu : OwI W F u row) (hn : xss.length < 1048576)
    (hK : ∀ g cap w', OwS w' B (.slice (some ⟨g, 0, none⟩) (xss.length + 1) cap) (xss ++ [row]) → W.grownBy w' v.ownBlock → Below B W w' → (v.ownBlock = some g ∨ g = W.heap.size) → wpList Try.prog ops Q rest (a.put o.dst (.slice (some ⟨g, 0, none⟩) (xss.length + 1) cap)) w') :
    wpList Try.prog ops Q (o :: rest) a W :=
  wpList_plain hg fun _ hK' => wpApG W s x hop B F v xss hs hown hF hBF u row k hx hcell hu hn fun g cap w' h1 h2 h3 h4 => hK' _ _ (hK g cap w' h1 h2 h3 h4)
end
def Lk (v : Value) (w : World) (F : World → Prop) : Prop := ∃ lo hi, Rds lo hi w F ∧ ∀ b, v.ownBlock = some b → b < lo ∨ hi ≤ b
theorem Lk.now {v : Value} {w : World} {F : World → Prop} (h : Lk v w F) : F w := by obtain ⟨lo, hi, h, -⟩ := h; exact h.now
theorem Lk.grown {v v' : Value} {w w' : World} {F : World → Prop} (h : Lk v w F) (hg : w.grownBy w' v.ownBlock) (hv : ∀ b, v'.ownBlock = some b → v.ownBlock = some b ∨ w.heap.size ≤ b) : Lk v' w' F := by
  obtain ⟨lo, hi, h, h1⟩ := h
  refine ⟨lo, hi, h.grown hg (fun b hb => h1 b hb), fun b hb => ?_⟩
  rcases hv b hb with e | e
  · exact h1 b e
  · have := h.1; exact .inr (by omega)
theorem Lk.below {v : Value} {w w' : World} {F : World → Prop} (h : Lk v w F) (hb : Below w.heap.size w w') : Lk v w' F := by
  obtain ⟨lo, hi, h, h1⟩ := h
  exact ⟨lo, hi, h.below hb, h1⟩
theorem Lk.of {v : Value} {w : World} {F : World → Prop} {lo hi : Nat} (h : Rds lo hi w F) (hv : ∀ b, v.ownBlock = some b → b < lo ∨ hi ≤ b) : Lk v w F := ⟨lo, hi, h, hv⟩
theorem gr_of_below {w w' : World} {r : Option Nat} (hb : Below w.heap.size w w') : w.grownBy w' r := ⟨hb.os, hb.tape, hb.output, hb.size, fun k hk _ => hb.block k hk⟩
theorem RdT.rds {w : World} {v : Value} {xss : List (List Int)} (h : RdT w v xss) : Rds 0 w.heap.size w (fun u => RdT u v xss) := by
  obtain ⟨us, hu⟩ := Lives.rdT h
  exact ⟨Nat.le_refl _, fun u hk => (hu.stay w u hk hu.now).rd⟩
end Go.Proofs.Ytfpphfjlpgefaaa
