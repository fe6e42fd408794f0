/- Two lists of tables that grow side by side. -/
import Derived.Test.YtflebfmkgmhccaaLisT
set_option linter.unusedSimpArgs false
set_option linter.unusedVariables false
namespace Go.Proofs.Ytflebfmkgmhccaa
open Go.RowKit

/-- The call's own list of tables; the tables lie apart from the block q as well. -/
def OwLQ (w : World) (B : Nat) (q : Nat) (g n c : Nat) (xss : List (List (List Int))) : Prop :=
  n = xss.length ∧ ∃ us : List Value, us.length = xss.length ∧ w.ownsRow B 22 1 (.slice (some ⟨g, 0, none⟩) n c) xss.length us ∧
    (∀ (k : Nat) (u : Value) (row : List (List Int)), us[k]? = some u → xss[k]? = some row → ∃ lo hi, Rds lo hi w (fun x => RdT x u row) ∧ (g < lo ∨ hi ≤ g) ∧ (q < lo ∨ hi ≤ q))
theorem OwLQ.lt {w : World} {B q g n c : Nat} {xss : List (List (List Int))} (h : OwLQ w B q g n c xss) : B ≤ g ∧ g < w.heap.size := by
  obtain ⟨-, us, hl, hr, -⟩ := h; exact hr.lt g rfl
theorem OwLQ.mono {w : World} {B B' q g n c : Nat} {xss : List (List (List Int))} (h : OwLQ w B q g n c xss) (hB : B' ≤ B) : OwLQ w B' q g n c xss := by
  obtain ⟨hn, us, hl, hr, h1⟩ := h
  refine ⟨hn, us, hl, ⟨hr.1, ?_⟩, h1⟩
  rcases hr.2 with h | ⟨g', cap, cur, hv, hg, r⟩
  · exact .inl h
  · exact .inr ⟨g', cap, cur, hv, by omega, r⟩
theorem OwLQ.grown {w w' : World} {B q g n c : Nat} {xss : List (List (List Int))} (h : OwLQ w B q g n c xss) (hg : w.grownBy w' (some q)) (hne : g ≠ q) : OwLQ w' B q g n c xss := by
  obtain ⟨hn, us, hl, hr, h1⟩ := h
  refine ⟨hn, us, hl, hr.kept hg (.inr fun e => hne (by simpa [Value.ownBlock] using e)), fun k u row hu hx => ?_⟩
  obtain ⟨lo, hi, h2, h3, h4⟩ := h1 k u row hu hx
  exact ⟨lo, hi, h2.grown hg (fun b hb => by cases hb; exact h4), h3, h4⟩
theorem OwLQ.below {w w' : World} {B q g n c : Nat} {xss : List (List (List Int))} (h : OwLQ w B q g n c xss) (hb : Below w.heap.size w w') : OwLQ w' B q g n c xss := by
  obtain ⟨hn, us, hl, hr, h1⟩ := h
  refine ⟨hn, us, hl, hr.kept (row := none) ⟨hb.os, hb.tape, hb.output, hb.size, fun k hk _ => hb.block k hk⟩ (by simp [Value.ownBlock]), fun k u row hu hx => ?_⟩
  obtain ⟨lo, hi, h2, h3⟩ := h1 k u row hu hx
  exact ⟨lo, hi, h2.below hb, h3⟩
/-- The other list, behind an append to the one whose block is q. -/
theorem OwLQ.other {w w' : World} {B q q' g n c : Nat} {xss : List (List (List Int))} (h : OwLQ w B q g n c xss) (hg : w.grownBy w' (some q)) (hne : g ≠ q) (hq : q' = q ∨ q' = w.heap.size) : OwLQ w' B q' g n c xss := by
  obtain ⟨hn, us, hl, hr, h1⟩ := h
  refine ⟨hn, us, hl, hr.kept hg (.inr fun e => hne (by simpa [Value.ownBlock] using e)), fun k u row hu hx => ?_⟩
  obtain ⟨lo, hi, h2, h3, h4⟩ := h1 k u row hu hx
  refine ⟨lo, hi, h2.grown hg (fun b hb => by cases hb; exact h4), h3, ?_⟩
  rcases hq with rfl | rfl
  · exact h4
  · exact .inr h2.1
theorem OwLQ.rd {w : World} {B q g n c : Nat} {xss : List (List (List Int))} (h : OwLQ w B q g n c xss) : RdLT w (.slice (some ⟨g, 0, none⟩) n c) xss := by
  obtain ⟨hn, us, hl, hr, h1⟩ := h
  subst hn
  rcases id hr.2 with ⟨h', h0⟩ | ⟨g', cap, cur, hv, hg, hh, hcap, hcm, hcs, ht⟩
  · cases h'
  · obtain ⟨hg', -, rfl⟩ := Value.slice.inj hv
    obtain rfl : g = g' := by simpa using hg'
    refine ⟨_, _, rfl, ⟨by omega, by omega, fun h => by cases h⟩, fun k row hx => ?_⟩
    have hk : k < xss.length := (List.getElem?_eq_some_iff.1 hx).1
    have hu : us[k]? = some us[k] := by simp [hl, hk]
    obtain ⟨lo, hi, h2, -⟩ := h1 k _ row hu hx
    refine ⟨g, 0, us[k], rfl, ?_, h2.now⟩
    rw [Nat.zero_add, World.ownsRow.cellAt hr k (by omega)]; exact hu
theorem OwLQ.lit0 (w : World) (q : Nat) : OwLQ (w.alloc (.cells #[] 22)) w.heap.size q w.heap.size 0 0 [] :=
  ⟨rfl, [], rfl, World.ownsRow_lit (base := w.heap.size) (e := 22) (size := 1) w #[] 0 (Nat.le_refl _) (Nat.zero_le _) rfl, by simp⟩

section
variable {ops : Array Oper} {rest : List Oper} {o : Oper} {a : Act} {Q : Exit → Act → World → Prop}
/-- append(list, table): the table lies in a cell of its own. -/
theorem stLQ {K : Act → World → Prop} {E : Prop} (W : World) (hg : o.guard = none) (s x : Operand) (hop : o.op = .call { callee := .builtin .append, args := #[s, x], argTypes := #[85, 85] })
    (B q g n c : Nat) (xss : List (List (List Int))) (hs : a.eval s = .slice (some ⟨g, 0, none⟩) n c) (hown : OwLQ W B q g n c xss) (hB : B ≤ W.heap.size) (u : Value) (row : List (List Int)) (k : Nat) (hx : a.eval x = .slice (some ⟨k, 0, none⟩) 1 1)
    (hc0 : W.cell? ⟨k, 0, none⟩ = some u) (hone : u.oneCell' = true) (hu : ∃ lo hi, Rds lo hi W (fun x => RdT x u row) ∧ (g < lo ∨ hi ≤ g) ∧ (q < lo ∨ hi ≤ q)) (hn : xss.length < 1048576)
    (hK : ∀ g' cap w', OwLQ w' B q g' (n + 1) cap (xss ++ [row]) → W.grownBy w' (some g) → Below B W w' → (g' = g ∨ g' = W.heap.size) → K (a.put o.dst (.slice (some ⟨g', 0, none⟩) (n + 1) cap)) w') :
    if Region.wanted o (yielded ops a.tmps) = true then Oper.wp Try.prog o a W K Q else E := by
  have hw : Region.wanted o (yielded ops a.tmps) = true := by simp [Region.wanted, hg]
  rw [if_pos hw]
  obtain ⟨i0, hi, hz0, hz1, hz2⟩ := info_parts info_t
  obtain ⟨rfl, us, hl, hr, h1⟩ := hown
  refine wp_append_lies W s x 85 hop B 22 i0 (.slice none 0 0) 1 24 Try.underlying85 hi hz0 hz1 hz2 rfl (by decide) (.slice (some ⟨g, 0, none⟩) xss.length c) xss.length us hs hr ⟨k, 0, none⟩ 1 1 [u] hx rfl (fun j u' hj => ?_) (fun u' hu' => ?_) (by decide) (by unfold maxLen; omega) (by omega) hB W.heap.size rfl ?_
  · match j with
    | 0 => simp at hj; subst hj; simpa [Addr.add] using hc0
    | j + 1 => simp at hj
  · simp at hu'; subst hu'; exact hone
  · intro g' cap w' hown' hgrow hlies hglt
    have hgl := hr.lt g rfl
    have hgb : Below B W w' := Below.grown (Below.refl B W) hgrow hB (fun b hb => (hr.lt b hb).1)
    have hl' : g' = g ∨ g' = W.heap.size := by
      rcases hlies with h | h
      · left; simp only [Value.ownBlock, Option.some.injEq] at h; exact h.symm
      · exact .inr h
    have hg0 : W.grownBy w' (some g) := hgrow
    refine hK g' cap w' ⟨by simp, us ++ [u], by simp [hl], by rw [List.length_append]; exact hown', fun i u' r hi' hxi => ?_⟩ hg0 hgb hl'
    rw [List.getElem?_append] at hi' hxi
    have fin : ∀ lo hi, Rds lo hi W (fun x => RdT x u' r) → (g < lo ∨ hi ≤ g) → (q < lo ∨ hi ≤ q) → ∃ lo hi, Rds lo hi w' (fun x => RdT x u' r) ∧ (g' < lo ∨ hi ≤ g') ∧ (q < lo ∨ hi ≤ q) := fun lo hi h2 h3 h4 =>
      ⟨lo, hi, h2.grown hg0 (fun b hb => by cases hb; exact h3), by
        rcases hl' with rfl | rfl
        · exact h3
        · exact .inr h2.1, h4⟩
    by_cases hil : i < us.length
    · rw [if_pos hil] at hi'
      rw [if_pos (by omega)] at hxi
      obtain ⟨lo, hi, h2, h3, h4⟩ := h1 i u' r hi' hxi
      exact fin lo hi h2 h3 h4
    · rw [if_neg hil] at hi'
      rw [if_neg (by omega)] at hxi
      have e1 : i - us.length = 0 := by
        have := (List.getElem?_eq_some_iff.1 hi').1; simp at this; omega
      rw [show i - xss.length = 0 by omega] at hxi
      rw [e1] at hi'
      simp at hi' hxi
      subst hi' hxi
      obtain ⟨lo, hi, h2, h3, h4⟩ := hu
      exact fin lo hi h2 h3 h4
end
end Go.Proofs.Ytflebfmkgmhccaa
