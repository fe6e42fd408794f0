/- Lemmas of HomJ. -/
import Derived.Test.YtdnkadlondediaaQcHomI
set_option linter.unusedSimpArgs false
set_option linter.unusedVariables false
namespace Go.Proofs.Ytdnkadlondediaa
open Go.RowKit

def OwZ (w : World) (B : Nat) (X : Nat → Prop) (v : Value) (m : Int) (xss : List (List Int)) : Prop :=
  ∃ us : List Value, us.length = xss.length ∧ w.ownsRow B 34 2 v xss.length (pairsV m us) ∧
    (∀ (k : Nat) (u : Value) (row : List Int), us[k]? = some u → xss[k]? = some row → ∃ lo hi, B ≤ lo ∧ (∀ b, X b → b < lo ∨ hi ≤ b) ∧ Rds lo hi w (fun x => RdI x u row) ∧ ∀ b : Nat, v.ownBlock = some b → b < lo ∨ hi ≤ b)
theorem OwZ.S {w : World} {B : Nat} {X : Nat → Prop} {v : Value} {m : Int} {xss : List (List Int)} (h : OwZ w B X v m xss) : OwLS w B v m xss := by
  obtain ⟨us, hl, hr, h1⟩ := h
  refine ⟨us, hl, hr, fun k u row hu hx => ?_⟩
  obtain ⟨lo, hi, h0, hX, h2, h3⟩ := h1 k u row hu hx
  exact ⟨lo, hi, h0, h2, h3⟩
theorem OwZ.nil (w : World) (m : Int) (X : Nat → Prop) : OwZ (w.alloc (.cells #[] 34)) w.heap.size X (.slice (some ⟨w.heap.size, 0, none⟩) 0 0) m [] :=
  ⟨[], rfl, World.ownsRow_lit (base := w.heap.size) (e := 34) (size := 2) w #[] 0 (Nat.le_refl _) (Nat.zero_le _) rfl, by simp⟩
theorem OwZ.stay {w w' : World} {B : Nat} {X : Nat → Prop} {v : Value} {m : Int} {xss : List (List Int)} (h : OwZ w B X v m xss) (hs : w.heap.size ≤ w'.heap.size) (hX : ∀ b, v.ownBlock = some b → ¬ X b) (hk : ∀ k, k < w.heap.size → ¬ X k → w'.heap[k]? = w.heap[k]?) : OwZ w' B X v m xss := by
  obtain ⟨us, hl, hr, h1⟩ := h
  refine ⟨us, hl, ⟨hr.1, ?_⟩, fun k u row hu hx => ?_⟩
  · rcases hr.2 with h | ⟨g, cap, cur, hv, hg, hh, r⟩
    · exact .inl h
    · have hlt : g < w.heap.size := (Array.getElem?_eq_some_iff.1 hh).1
      exact .inr ⟨g, cap, cur, hv, hg, by rw [hk g hlt (hX g (by rw [hv]; rfl))]; exact hh, r⟩
  · obtain ⟨lo, hi, h0, h2, h3, h4⟩ := h1 k u row hu hx
    refine ⟨lo, hi, h0, h2, ⟨Nat.le_trans h3.1 hs, fun x hx' => h3.2 x (fun j j1 j2 => (hx' j j1 j2).trans (hk j (Nat.lt_of_lt_of_le j2 h3.1) (fun hXj => by have := h2 j hXj; omega)))⟩, h4⟩

section
variable {ops : Array Oper} {rest : List Oper} {o : Oper} {a : Act} {Q : Exit → Act → World → Prop}
theorem wpApZ {K : Act → World → Prop} (W : World) (s x : Operand) (hop : o.op = .call { callee := .builtin .append, args := #[s, x], argTypes := #[58, 58] })
    (B : Nat) (X : Nat → Prop) (v : Value) (m : Int) (xss : List (List Int)) (hs : a.eval s = v) (hown : OwZ W B X v m xss) (hB : B ≤ W.heap.size) (u : Value) (row : (List Int)) (k : Nat) (hx : a.eval x = .slice (some ⟨k, 0, none⟩) 1 1)
    (hc0 : W.cell? ⟨k, 0, none⟩ = some (.int .i64 m)) (hc1 : W.cell? ⟨k, 1, none⟩ = some u) (hone : u.oneCell' = true) (hu : ∃ lo hi, B ≤ lo ∧ (∀ b, X b → b < lo ∨ hi ≤ b) ∧ Rds lo hi W (fun x => RdI x u row) ∧ ∀ b : Nat, v.ownBlock = some b → b < lo ∨ hi ≤ b) (hn : xss.length < 1048576)
    (hK : ∀ g cap w', OwZ w' B X (.slice (some ⟨g, 0, none⟩) (xss.length + 1) cap) m (xss ++ [row]) → W.grownBy w' v.ownBlock → Below B W w' → (v.ownBlock = some g ∨ g = W.heap.size) → K (a.put o.dst (.slice (some ⟨g, 0, none⟩) (xss.length + 1) cap)) w') :
    Oper.wp Try.prog o a W K Q := by
  obtain ⟨i0, hi, hz0, hz1, hz2⟩ := info_parts info_S
  obtain ⟨us, hl, hr, h1⟩ := hown
  refine wp_append_lies W s x 58 hop B 34 i0 (.agg #[.int .i64 0, .slice none 0 0]) 2 32 Try.underlying58 hi hz0 hz1 hz2 rfl (by decide) v xss.length (pairsV m us) hs hr ⟨k, 0, none⟩ 1 1 [.int .i64 m, u] hx rfl (fun j u' hj => ?_) (fun u' hu' => ?_) (by decide) (by unfold maxLen; omega) (by omega) hB W.heap.size rfl ?_
  · match j with
    | 0 => simp at hj; subst hj; simpa [Addr.add] using hc0
    | 1 => simp at hj; subst hj; simpa [Addr.add] using hc1
    | j + 2 => simp at hj
  · simp at hu'; rcases hu' with rfl | rfl
    · rfl
    · exact hone
  · intro g cap w' hown' hgrow hlies hglt
    have hgb : Below B W w' := Below.grown (Below.refl B W) hgrow hB (fun b hb => (hr.lt b hb).1)
    have hg2 : ∀ lo hi, hi ≤ W.heap.size → (∀ b : Nat, v.ownBlock = some b → b < lo ∨ hi ≤ b) → ∀ b : Nat, (Value.slice (some ⟨g, 0, none⟩) (xss.length + 1) cap).ownBlock = some b → b < lo ∨ hi ≤ b := by
      intro lo hi hh hv b hb
      simp only [Value.ownBlock, Option.some.injEq] at hb
      subst hb
      rcases hlies with h | rfl
      · exact hv _ h
      · exact .inr hh
    refine hK g cap w' ⟨us ++ [u], by simp [hl], by rw [List.length_append, pairsV_app]; exact hown', fun i u' r hi' hxi => ?_⟩ hgrow hgb hlies
    rw [List.getElem?_append] at hi' hxi
    by_cases hil : i < us.length
    · rw [if_pos hil] at hi'
      rw [if_pos (by omega)] at hxi
      obtain ⟨lo, hi, h0, hX, h2, h3⟩ := h1 i u' r hi' hxi
      exact ⟨lo, hi, h0, hX, h2.grown hgrow h3, hg2 lo hi h2.1 h3⟩
    · rw [if_neg hil] at hi'
      rw [if_neg (by omega)] at hxi
      have e1 : i - us.length = 0 := by
        have := (List.getElem?_eq_some_iff.1 hi').1; simp at this; omega
      rw [show i - xss.length = 0 by omega] at hxi
      rw [e1] at hi'
      simp at hi' hxi
      subst hi' hxi
      obtain ⟨lo, hi, h0, hX, h2, h3⟩ := hu
      exact ⟨lo, hi, h0, hX, h2.grown hgrow h3, hg2 lo hi h2.1 h3⟩
theorem apZ (W : World) (hg : o.guard = none) (s x : Operand) (hop : o.op = .call { callee := .builtin .append, args := #[s, x], argTypes := #[58, 58] })
    (B : Nat) (X : Nat → Prop) (v : Value) (m : Int) (xss : List (List Int)) (hs : a.eval s = v) (hown : OwZ W B X v m xss) (hB : B ≤ W.heap.size) (u : Value) (row : List Int) (k : Nat) (hx : a.eval x = .slice (some ⟨k, 0, none⟩) 1 1)
    (hc0 : W.cell? ⟨k, 0, none⟩ = some (.int .i64 m)) (hc1 : W.cell? ⟨k, 1, none⟩ = some u) (hone : u.oneCell' = true) (hu : ∃ lo hi, B ≤ lo ∧ (∀ b, X b → b < lo ∨ hi ≤ b) ∧ Rds lo hi W (fun x => RdI x u row) ∧ ∀ b : Nat, v.ownBlock = some b → b < lo ∨ hi ≤ b) (hn : xss.length < 1048576)
    (hK : ∀ g cap w', OwZ w' B X (.slice (some ⟨g, 0, none⟩) (xss.length + 1) cap) m (xss ++ [row]) → W.grownBy w' v.ownBlock → Below B W w' → (v.ownBlock = some g ∨ g = W.heap.size) → wpList Try.prog ops Q rest (a.put o.dst (.slice (some ⟨g, 0, none⟩) (xss.length + 1) cap)) w') :
    wpList Try.prog ops Q (o :: rest) a W :=
  wpList_plain hg fun _ hK' => wpApZ W s x hop B X v m xss hs hown hB u row k hx hc0 hc1 hone hu hn fun g cap w' h1 h2 h3 h4 => hK' _ _ (hK g cap w' h1 h2 h3 h4)
end

set_option maxHeartbeats 400000 in
theorem anyCurve_c (v : Value) (m : Int) (w : World) : Calls Try.prog 103 #[.agg #[.int .i64 m, v]] w fun e w' => e = .returned (.bool true) ∧ Below w.heap.size w w' := by
  go_enter Try.func103, Try.ntmps103
  go_wp2
  go_ret
  exact ⟨rfl, (by (repeat (first | exact Below.refl _ _ | (refine Below.setCell ?_ (by first | (simp; done) | (simp; omega) | omega) _) | (refine Below.alloc ?_ (by first | (simp; done) | (simp; omega) | omega) _) | (refine below_drewN ?_ _) | (refine Below.drew ?_))))⟩
theorem anyCurve_callable : Callable 103 := fun args w => Try.call103 args w
end Go.Proofs.Ytdnkadlondediaa
