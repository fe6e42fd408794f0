/- Lemmas of G19. -/
import Derived.Test.YtoednonijmkbjaaUG2
/- (Where LisT is empty.) Words of memory for lists of tables. -/
set_option linter.unusedSimpArgs false
set_option linter.unusedVariables false
namespace Go.Proofs.Ytoednonijmkbjaa
open Go.RowKit

def RdLT (w : World) (v : Value) (xss : List (List (List Int))) : Prop :=
  ∃ o c, v = .slice o xss.length c ∧ (xss.length ≤ maxLen ∧ xss.length ≤ c ∧ (o = none → c = 0)) ∧
    (∀ (k : Nat) (row : List (List Int)), xss[k]? = some row → ∃ b off u, o = some ⟨b, off, none⟩ ∧ w.cell? ⟨b, off + k, none⟩ = some u ∧ RdT w u row)
theorem RdLT.below {B : Nat} {w w' : World} {v : Value} {xss : List (List (List Int))} (h : RdLT w v xss) (hb : Below B w w') (hB : w.heap.size ≤ B) : RdLT w' v xss := by
  obtain ⟨o, c, rfl, hm, hc⟩ := h
  refine ⟨o, c, rfl, hm, fun k row hx => ?_⟩
  obtain ⟨b, off, u, ho, h0, hr⟩ := hc k row hx
  exact ⟨b, off, u, ho, keep_cell hb hB h0, hr.below hb hB⟩
theorem RdLT.base {w : World} {o : Option Addr} {n c : Nat} {xss : List (List (List Int))} (h : RdLT w (.slice o n c) xss) (hx : 1 ≤ xss.length) : ∃ b off, o = some ⟨b, off, none⟩ := by
  obtain ⟨o', c', heq, hm, hc⟩ := h
  obtain ⟨rfl, rfl, rfl⟩ : o = o' ∧ n = xss.length ∧ c = c' := by simpa using heq
  obtain ⟨b, off, u, ho, -⟩ := hc 0 xss[0] (by simp)
  exact ⟨b, off, ho⟩
theorem RdLT.at {w : World} {b off n c : Nat} {xss : List (List (List Int))} (h : RdLT w (.slice (some ⟨b, off, none⟩) n c) xss) {k : Nat} {row : List (List Int)} (hx : xss[k]? = some row) :
    ∃ o c, w.cell? ⟨b, off + k, none⟩ = some (.slice o row.length c) ∧ RdT w (.slice o row.length c) row := by
  obtain ⟨o', c', heq, hm, hc⟩ := h
  obtain ⟨rfl, -, -⟩ : some ⟨b, off, none⟩ = o' ∧ n = xss.length ∧ c = c' := by simpa using heq
  obtain ⟨b', off', u, ho, h0, h2⟩ := hc k row hx
  obtain ⟨rfl, rfl⟩ : b = b' ∧ off = off' := by simpa using ho
  obtain ⟨o, c, rfl, -, -⟩ := id h2
  exact ⟨o, c, h0, h2⟩

def OwLT (w : World) (B : Nat) (v : Value) (xss : List (List (List Int))) : Prop :=
  ∃ us : List Value, us.length = xss.length ∧ w.ownsRow B 22 1 v xss.length us ∧
    (∀ (k : Nat) (u : Value) (row : List (List Int)), us[k]? = some u → xss[k]? = some row → ∃ lo hi, B ≤ lo ∧ Rds lo hi w (fun x => RdT x u row) ∧ ∀ b : Nat, v.ownBlock = some b → b < lo ∨ hi ≤ b)
theorem OwLT.shape {w : World} {B : Nat} {v : Value} {xss : List (List (List Int))} (h : OwLT w B v xss) : ∃ o c, v = .slice o xss.length c := by
  obtain ⟨us, hl, ⟨_, hr⟩, -⟩ := h
  rcases hr with ⟨rfl, h0⟩ | ⟨g, cap, cur, rfl, -⟩
  · exact ⟨none, 0, by rw [h0]⟩
  · exact ⟨_, _, rfl⟩
theorem OwLT.mono {w : World} {B B' : Nat} {v : Value} {xss : List (List (List Int))} (h : OwLT w B v xss) (hB : B' ≤ B) : OwLT w B' v xss := by
  obtain ⟨us, hl, hr, h1⟩ := h
  refine ⟨us, hl, ⟨hr.1, ?_⟩, fun k u row hu hx => ?_⟩
  rcases hr.2 with h | ⟨g, cap, cur, hv, hg, r⟩
  · exact .inl h
  · exact .inr ⟨g, cap, cur, hv, by omega, r⟩
  obtain ⟨lo, hi, h0, h2, h3⟩ := h1 k u row hu hx
  exact ⟨lo, hi, by omega, h2, h3⟩
theorem OwLT.lt {w : World} {B : Nat} {v : Value} {xss : List (List (List Int))} (h : OwLT w B v xss) : ∀ k, v.ownBlock = some k → B ≤ k ∧ k < w.heap.size := by
  obtain ⟨us, hl, hr, -⟩ := h; exact hr.lt
theorem OwLT.grown {w w' : World} {B : Nat} {v : Value} {xss : List (List (List Int))} {r : Option Nat} (h : OwLT w B v xss) (hg : w.grownBy w' r) (hr' : v.ownBlock = none ∨ v.ownBlock ≠ r) (hlo : ∀ b, r = some b → b < B ∨ w.heap.size ≤ b) : OwLT w' B v xss := by
  obtain ⟨us, hl, hr, h1⟩ := h
  refine ⟨us, hl, hr.kept hg hr', fun k u row hu hx => ?_⟩
  obtain ⟨lo, hi, h0, h2, h3⟩ := h1 k u row hu hx
  exact ⟨lo, hi, h0, h2.grown hg (fun b hb => by have := hlo b hb; have := h2.1; omega), h3⟩
theorem OwLT.below {w w' : World} {B : Nat} {v : Value} {xss : List (List (List Int))} (h : OwLT w B v xss) (hb : Below w.heap.size w w') : OwLT w' B v xss :=
  h.grown (r := none) ⟨hb.os, hb.tape, hb.output, hb.size, fun k hk _ => hb.block k hk⟩ (by cases e : v.ownBlock <;> simp) (fun b hb => by cases hb)
theorem OwLT.rd {w : World} {B : Nat} {v : Value} {xss : List (List (List Int))} (h : OwLT w B v xss) : RdLT w v xss := by
  obtain ⟨us, hl, hr, h1⟩ := h
  rcases id hr.2 with ⟨rfl, h0⟩ | ⟨g, cap, cur, rfl, hg, hh, hn, hcm, hcs, ht⟩
  · have : xss = [] := List.eq_nil_of_length_eq_zero h0
    subst this
    exact ⟨none, 0, rfl, ⟨Nat.zero_le _, Nat.zero_le _, fun _ => rfl⟩, fun k row hx => by simp at hx⟩
  · refine ⟨_, _, rfl, ⟨by omega, hn, fun h => by cases h⟩, fun k row hx => ?_⟩
    have hk : k < xss.length := (List.getElem?_eq_some_iff.1 hx).1
    have hu : us[k]? = some us[k] := by simp [hl, hk]
    obtain ⟨lo, hi, -, h2, -⟩ := h1 k _ row hu hx
    refine ⟨g, 0, us[k], rfl, ?_, h2.now⟩
    rw [Nat.zero_add, World.ownsRow.cellAt hr k (by omega)]; exact hu
theorem OwLT.lit0 (w : World) : OwLT (w.alloc (.cells #[] 22)) w.heap.size (.slice (some ⟨w.heap.size, 0, none⟩) 0 0) [] :=
  ⟨[], rfl, World.ownsRow_lit (base := w.heap.size) (e := 22) (size := 1) w #[] 0 (Nat.le_refl _) (Nat.zero_le _) rfl, by simp⟩
theorem info_t : (Try.prog.info? 22).map (fun i => (i.zero, i.size, i.bytes)) = some (some (.slice none 0 0), 1, 24) := by kernel_rfl

section
variable {ops : Array Oper} {rest : List Oper} {o : Oper} {a : Act} {Q : Exit → Act → World → Prop}
end
end Go.Proofs.Ytoednonijmkbjaa

/- (Where LisQ is empty.) Two lists of tables that grow side by side. -/
set_option linter.unusedSimpArgs false
set_option linter.unusedVariables false
namespace Go.Proofs.Ytoednonijmkbjaa
open Go.RowKit

def OwLQ (w : World) (B : Nat) (q : Nat) (g n c : Nat) (xss : List (List (List Int))) : Prop :=
  n = xss.length ∧ ∃ us : List Value, us.length = xss.length ∧ w.ownsRow B 22 1 (.slice (some ⟨g, 0, none⟩) n c) xss.length us ∧
    (∀ (k : Nat) (u : Value) (row : List (List Int)), us[k]? = some u → xss[k]? = some row → ∃ lo hi, Rds lo hi w (fun x => RdT x u row) ∧ (g < lo ∨ hi ≤ g) ∧ (q < lo ∨ hi ≤ q))
theorem OwLQ.lt {w : World} {B q g n c : Nat} {xss : List (List (List Int))} (h : OwLQ w B q g n c xss) : B ≤ g ∧ g < w.heap.size := by
  obtain ⟨-, us, hl, hr, -⟩ := h; exact hr.lt g rfl
theorem OwLQ.mono {w : World} {B B' q g n c : Nat} {xss : List (List (List Int))} (h : OwLQ w B q g n c xss) (hB : B' ≤ B) : OwLQ w B' q g n c xss := by
  obtain ⟨hn, us, hl, hr, h1⟩ := h
  refine ⟨hn, us, hl, ⟨hr.1, ?_⟩, h1⟩
  rcases hr.2 with h | ⟨g', cap, cur, hv, hg, r⟩
  · exact .inl h
  · exact .inr ⟨g', cap, cur, hv, by omega, r⟩
theorem OwLQ.grown {w w' : World} {B q g n c : Nat} {xss : List (List (List Int))} (h : OwLQ w B q g n c xss) (hg : w.grownBy w' (some q)) (hne : g ≠ q) : OwLQ w' B q g n c xss := by
  obtain ⟨hn, us, hl, hr, h1⟩ := h
  refine ⟨hn, us, hl, hr.kept hg (.inr fun e => hne (by simpa [Value.ownBlock] using e)), fun k u row hu hx => ?_⟩
  obtain ⟨lo, hi, h2, h3, h4⟩ := h1 k u row hu hx
  exact ⟨lo, hi, h2.grown hg (fun b hb => by cases hb; exact h4), h3, h4⟩
theorem OwLQ.below {w w' : World} {B q g n c : Nat} {xss : List (List (List Int))} (h : OwLQ w B q g n c xss) (hb : Below w.heap.size w w') : OwLQ w' B q g n c xss := by
  obtain ⟨hn, us, hl, hr, h1⟩ := h
  refine ⟨hn, us, hl, hr.kept (row := none) ⟨hb.os, hb.tape, hb.output, hb.size, fun k hk _ => hb.block k hk⟩ (by simp [Value.ownBlock]), fun k u row hu hx => ?_⟩
  obtain ⟨lo, hi, h2, h3⟩ := h1 k u row hu hx
  exact ⟨lo, hi, h2.below hb, h3⟩
theorem OwLQ.other {w w' : World} {B q q' g n c : Nat} {xss : List (List (List Int))} (h : OwLQ w B q g n c xss) (hg : w.grownBy w' (some q)) (hne : g ≠ q) (hq : q' = q ∨ q' = w.heap.size) : OwLQ w' B q' g n c xss := by
  obtain ⟨hn, us, hl, hr, h1⟩ := h
  refine ⟨hn, us, hl, hr.kept hg (.inr fun e => hne (by simpa [Value.ownBlock] using e)), fun k u row hu hx => ?_⟩
  obtain ⟨lo, hi, h2, h3, h4⟩ := h1 k u row hu hx
  refine ⟨lo, hi, h2.grown hg (fun b hb => by cases hb; exact h4), h3, ?_⟩
  rcases hq with rfl | rfl
  · exact h4
  · exact .inr h2.1
theorem OwLQ.rd {w : World} {B q g n c : Nat} {xss : List (List (List Int))} (h : OwLQ w B q g n c xss) : RdLT w (.slice (some ⟨g, 0, none⟩) n c) xss := by
  obtain ⟨hn, us, hl, hr, h1⟩ := h
  subst hn
  rcases id hr.2 with ⟨h', h0⟩ | ⟨g', cap, cur, hv, hg, hh, hcap, hcm, hcs, ht⟩
  · cases h'
  · obtain ⟨hg', -, rfl⟩ := Value.slice.inj hv
    obtain rfl : g = g' := by simpa using hg'
    refine ⟨_, _, rfl, ⟨by omega, by omega, fun h => by cases h⟩, fun k row hx => ?_⟩
    have hk : k < xss.length := (List.getElem?_eq_some_iff.1 hx).1
    have hu : us[k]? = some us[k] := by simp [hl, hk]
    obtain ⟨lo, hi, h2, -⟩ := h1 k _ row hu hx
    refine ⟨g, 0, us[k], rfl, ?_, h2.now⟩
    rw [Nat.zero_add, World.ownsRow.cellAt hr k (by omega)]; exact hu
theorem OwLQ.lit0 (w : World) (q : Nat) : OwLQ (w.alloc (.cells #[] 22)) w.heap.size q w.heap.size 0 0 [] :=
  ⟨rfl, [], rfl, World.ownsRow_lit (base := w.heap.size) (e := 22) (size := 1) w #[] 0 (Nat.le_refl _) (Nat.zero_le _) rfl, by simp⟩

section
variable {ops : Array Oper} {rest : List Oper} {o : Oper} {a : Act} {Q : Exit → Act → World → Prop}
theorem stLQ {K : Act → World → Prop} {E : Prop} (W : World) (hg : o.guard = none) (s x : Operand) (hop : o.op = .call { callee := .builtin .append, args := #[s, x], argTypes := #[98, 98] })
    (B q g n c : Nat) (xss : List (List (List Int))) (hs : a.eval s = .slice (some ⟨g, 0, none⟩) n c) (hown : OwLQ W B q g n c xss) (hB : B ≤ W.heap.size) (u : Value) (row : List (List Int)) (k : Nat) (hx : a.eval x = .slice (some ⟨k, 0, none⟩) 1 1)
    (hc0 : W.cell? ⟨k, 0, none⟩ = some u) (hone : u.oneCell' = true) (hu : ∃ lo hi, Rds lo hi W (fun x => RdT x u row) ∧ (g < lo ∨ hi ≤ g) ∧ (q < lo ∨ hi ≤ q)) (hn : xss.length < 1048576)
    (hK : ∀ g' cap w', OwLQ w' B q g' (n + 1) cap (xss ++ [row]) → W.grownBy w' (some g) → Below B W w' → (g' = g ∨ g' = W.heap.size) → K (a.put o.dst (.slice (some ⟨g', 0, none⟩) (n + 1) cap)) w') :
    if Region.wanted o (yielded ops a.tmps) = true then Oper.wp Try.prog o a W K Q else E := by
  have hw : Region.wanted o (yielded ops a.tmps) = true := by simp [Region.wanted, hg]
  rw [if_pos hw]
  obtain ⟨i0, hi, hz0, hz1, hz2⟩ := info_parts info_t
  obtain ⟨rfl, us, hl, hr, h1⟩ := hown
  refine wp_append_lies W s x 98 hop B 22 i0 (.slice none 0 0) 1 24 Try.underlying98 hi hz0 hz1 hz2 rfl (by decide) (.slice (some ⟨g, 0, none⟩) xss.length c) xss.length us hs hr ⟨k, 0, none⟩ 1 1 [u] hx rfl (fun j u' hj => ?_) (fun u' hu' => ?_) (by decide) (by unfold maxLen; omega) (by omega) hB W.heap.size rfl ?_
  · match j with
    | 0 => simp at hj; subst hj; simpa [Addr.add] using hc0
    | j + 1 => simp at hj
  · simp at hu'; subst hu'; exact hone
  · intro g' cap w' hown' hgrow hlies hglt
    have hgl := hr.lt g rfl
    have hgb : Below B W w' := Below.grown (Below.refl B W) hgrow hB (fun b hb => (hr.lt b hb).1)
    have hl' : g' = g ∨ g' = W.heap.size := by
      rcases hlies with h | h
      · left; simp only [Value.ownBlock, Option.some.injEq] at h; exact h.symm
      · exact .inr h
    have hg0 : W.grownBy w' (some g) := hgrow
    refine hK g' cap w' ⟨by simp, us ++ [u], by simp [hl], by rw [List.length_append]; exact hown', fun i u' r hi' hxi => ?_⟩ hg0 hgb hl'
    rw [List.getElem?_append] at hi' hxi
    have fin : ∀ lo hi, Rds lo hi W (fun x => RdT x u' r) → (g < lo ∨ hi ≤ g) → (q < lo ∨ hi ≤ q) → ∃ lo hi, Rds lo hi w' (fun x => RdT x u' r) ∧ (g' < lo ∨ hi ≤ g') ∧ (q < lo ∨ hi ≤ q) := fun lo hi h2 h3 h4 =>
      ⟨lo, hi, h2.grown hg0 (fun b hb => by cases hb; exact h3), by
        rcases hl' with rfl | rfl
        · exact h3
        · exact .inr h2.1, h4⟩
    by_cases hil : i < us.length
    · rw [if_pos hil] at hi'
      rw [if_pos (by omega)] at hxi
      obtain ⟨lo, hi, h2, h3, h4⟩ := h1 i u' r hi' hxi
      exact fin lo hi h2 h3 h4
    · rw [if_neg hil] at hi'
      rw [if_neg (by omega)] at hxi
      have e1 : i - us.length = 0 := by
        have := (List.getElem?_eq_some_iff.1 hi').1; simp at this; omega
      rw [show i - xss.length = 0 by omega] at hxi
      rw [e1] at hi'
      simp at hi' hxi
      subst hi' hxi
      obtain ⟨lo, hi, h2, h3, h4⟩ := hu
      exact fin lo hi h2 h3 h4
end
end Go.Proofs.Ytoednonijmkbjaa
