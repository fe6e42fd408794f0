/- Words of memory for lists of series and lists of planes, all of one modulus. -/
import Derived.Test.YtflebfmkgmhccaaTabA
import Derived.Test.YtflebfmkgmhccaaRds
import Derived.Deep.AppendLies
set_option linter.unusedSimpArgs false
set_option linter.unusedVariables false
namespace Go.Proofs.Ytflebfmkgmhccaa
open Go.RowKit

def pairsV (m : Int) (us : List Value) : List Value := us.flatMap (fun u => [.int .i64 m, u])
theorem pairsV_len (m : Int) (us : List Value) : (pairsV m us).length = us.length * 2 := by
  induction us with
  | nil => rfl
  | cons u us ih => simp only [pairsV, List.flatMap_cons, List.length_append, List.length_cons, List.length_nil] at ih ⊢; omega
theorem pairsV_0 (m : Int) (us : List Value) (k : Nat) (h : k < us.length) : (pairsV m us)[k * 2]? = some (.int .i64 m) := by
  induction us generalizing k with
  | nil => simp at h
  | cons u us ih =>
    cases k with
    | zero => rfl
    | succ k =>
      rw [show (k + 1) * 2 = k * 2 + 1 + 1 by omega]
      exact ih k (by simpa using h)
theorem pairsV_1 (m : Int) (us : List Value) (k : Nat) : (pairsV m us)[k * 2 + 1]? = us[k]? := by
  induction us generalizing k with
  | nil => rfl
  | cons u us ih =>
    cases k with
    | zero => rfl
    | succ k =>
      rw [show (k + 1) * 2 + 1 = k * 2 + 1 + 1 + 1 by omega]
      exact ih k
theorem pairsV_app (m : Int) (us : List Value) (u : Value) : pairsV m (us ++ [u]) = pairsV m us ++ [.int .i64 m, u] := by simp [pairsV]

theorem Lives.grown {lo hi : Nat} {w w' : World} {F : World → Prop} {r : Option Nat} (h : Lives lo hi w F) (hg : w.grownBy w' r) (hr : ∀ b, r = some b → b < lo ∨ hi ≤ b) : Lives lo hi w' F :=
  ⟨h.stay w w' (fun k h1 h2 => hg.block k (Nat.lt_of_lt_of_le h2 h.le) (fun e => by have := hr k e.symm; omega)) h.now, Nat.le_trans h.le hg.size, h.stay⟩
theorem Lives.weak {lo hi : Nat} {w : World} {F G : World → Prop} (h : Lives lo hi w F) (e : ∀ u, F u ↔ G u) : Lives lo hi w G :=
  ⟨(e w).1 h.now, h.le, fun u u' hk hg => (e u').1 (h.stay u u' hk ((e u).2 hg))⟩
theorem OwS.rds {w : World} {B : Nat} {v : Value} {xs : List (List Int)} (h : OwS w B v xs) : Rds B w.heap.size w (fun u => RdT u v xs) :=
  ⟨Nat.le_refl _, fun u hu => (h.toR.stay hu).rd⟩

/-- v reads as a list. -/
def RdLS (w : World) (v : Value) (m : Int) (xss : List (List Int)) : Prop :=
  ∃ o c, v = .slice o xss.length c ∧ (xss.length ≤ maxLen ∧ xss.length ≤ c ∧ (o = none → c = 0)) ∧
    (∀ (k : Nat) (row : (List Int)), xss[k]? = some row → ∃ b off u, o = some ⟨b, off, none⟩ ∧ w.cell? ⟨b, off + k * 2, none⟩ = some (.int .i64 m) ∧ w.cell? ⟨b, off + k * 2 + 1, none⟩ = some u ∧ RdI w u row)
theorem RdLS.below {B : Nat} {w w' : World} {v : Value} {m : Int} {xss : List (List Int)} (h : RdLS w v m xss) (hb : Below B w w') (hB : w.heap.size ≤ B) : RdLS w' v m xss := by
  obtain ⟨o, c, rfl, hm, hc⟩ := h
  refine ⟨o, c, rfl, hm, fun k row hx => ?_⟩
  obtain ⟨b, off, u, ho, h0, h1, hr⟩ := hc k row hx
  exact ⟨b, off, u, ho, keep_cell hb hB h0, keep_cell hb hB h1, hr.below hb hB⟩
theorem RdLS.len {w : World} {o : Option Addr} {n c : Nat} {m : Int} {xss : List (List Int)} (h : RdLS w (.slice o n c) m xss) : n = xss.length ∧ xss.length ≤ maxLen ∧ xss.length ≤ c := by
  obtain ⟨o', c', heq, hm, hc⟩ := h
  obtain ⟨rfl, rfl, rfl⟩ : o = o' ∧ n = xss.length ∧ c = c' := by simpa using heq
  exact ⟨rfl, hm.1, hm.2.1⟩
theorem RdLS.base {w : World} {o : Option Addr} {n c : Nat} {m : Int} {xss : List (List Int)} (h : RdLS w (.slice o n c) m xss) (hx : 1 ≤ xss.length) : ∃ b off, o = some ⟨b, off, none⟩ := by
  obtain ⟨o', c', heq, hm, hc⟩ := h
  obtain ⟨rfl, rfl, rfl⟩ : o = o' ∧ n = xss.length ∧ c = c' := by simpa using heq
  obtain ⟨b, off, u, ho, -⟩ := hc 0 xss[0] (by simp)
  exact ⟨b, off, ho⟩
theorem RdLS.at {w : World} {b off n c : Nat} {m : Int} {xss : List (List Int)} (h : RdLS w (.slice (some ⟨b, off, none⟩) n c) m xss) {k : Nat} {row : (List Int)} (hx : xss[k]? = some row) :
    ∃ o c, w.cell? ⟨b, off + k * 2, none⟩ = some (.int .i64 m) ∧ w.cell? ⟨b, off + k * 2 + 1, none⟩ = some (.slice o row.length c) ∧ RdI w (.slice o row.length c) row := by
  obtain ⟨o', c', heq, hm, hc⟩ := h
  obtain ⟨rfl, -, -⟩ : some ⟨b, off, none⟩ = o' ∧ n = xss.length ∧ c = c' := by simpa using heq
  obtain ⟨b', off', u, ho, h0, h1, h2⟩ := hc k row hx
  obtain ⟨rfl, rfl⟩ : b = b' ∧ off = off' := by simpa using ho
  obtain ⟨o, c, rfl, -, -⟩ := id h2
  exact ⟨o, c, h0, h1, h2⟩

/-- The call's own list. -/
def OwLS (w : World) (B : Nat) (v : Value) (m : Int) (xss : List (List Int)) : Prop :=
  ∃ us : List Value, us.length = xss.length ∧ w.ownsRow B 41 2 v xss.length (pairsV m us) ∧
    (∀ (k : Nat) (u : Value) (row : (List Int)), us[k]? = some u → xss[k]? = some row → ∃ lo hi, B ≤ lo ∧ Rds lo hi w (fun x => RdI x u row) ∧ ∀ b : Nat, v.ownBlock = some b → b < lo ∨ hi ≤ b)
theorem OwLS.shape {w : World} {B : Nat} {v : Value} {m : Int} {xss : List (List Int)} (h : OwLS w B v m xss) : ∃ o c, v = .slice o xss.length c := by
  obtain ⟨us, hl, ⟨_, hr⟩, -⟩ := h
  rcases hr with ⟨rfl, h0⟩ | ⟨g, cap, cur, rfl, -⟩
  · exact ⟨none, 0, by rw [h0]⟩
  · exact ⟨_, _, rfl⟩
theorem OwLS.shapeN {w : World} {B n : Nat} {v : Value} {m : Int} {xss : List (List Int)} (h : OwLS w B v m xss) (hl : xss.length = n) : ∃ o c, v = .slice o n c := by
  obtain ⟨o, c, rfl⟩ := h.shape; exact ⟨o, c, by rw [hl]⟩
theorem OwLS.mono {w : World} {B B' : Nat} {v : Value} {m : Int} {xss : List (List Int)} (h : OwLS w B v m xss) (hB : B' ≤ B) : OwLS w B' v m xss := by
  obtain ⟨us, hl, hr, h1⟩ := h
  refine ⟨us, hl, ⟨hr.1, ?_⟩, fun k u row hu hx => ?_⟩
  rcases hr.2 with h | ⟨g, cap, cur, hv, hg, r⟩
  · exact .inl h
  · exact .inr ⟨g, cap, cur, hv, by omega, r⟩
  obtain ⟨lo, hi, h0, h2, h3⟩ := h1 k u row hu hx
  exact ⟨lo, hi, by omega, h2, h3⟩
theorem OwLS.lt {w : World} {B : Nat} {v : Value} {m : Int} {xss : List (List Int)} (h : OwLS w B v m xss) : ∀ k, v.ownBlock = some k → B ≤ k ∧ k < w.heap.size := by
  obtain ⟨us, hl, hr, -⟩ := h; exact hr.lt
theorem OwLS.below {w w' : World} {B : Nat} {v : Value} {m : Int} {xss : List (List Int)} (h : OwLS w B v m xss) (hb : Below w.heap.size w w') : OwLS w' B v m xss := by
  obtain ⟨us, hl, hr, h1⟩ := h
  refine ⟨us, hl, hr.kept (row := none) ⟨hb.os, hb.tape, hb.output, hb.size, fun k hk _ => hb.block k hk⟩ (by cases e : v.ownBlock <;> simp), fun k u row hu hx => ?_⟩
  obtain ⟨lo, hi, h0, h2, h3⟩ := h1 k u row hu hx
  exact ⟨lo, hi, h0, h2.below hb, h3⟩
theorem OwLS.rd {w : World} {B : Nat} {v : Value} {m : Int} {xss : List (List Int)} (h : OwLS w B v m xss) : RdLS w v m xss := by
  obtain ⟨us, hl, hr, h1⟩ := h
  rcases id hr.2 with ⟨rfl, h0⟩ | ⟨g, cap, cur, rfl, hg, hh, hn, hcm, hcs, ht⟩
  · have : xss = [] := List.eq_nil_of_length_eq_zero h0
    subst this
    exact ⟨none, 0, rfl, ⟨Nat.zero_le _, Nat.zero_le _, fun _ => rfl⟩, fun k row hx => by simp at hx⟩
  · refine ⟨_, _, rfl, ⟨by omega, hn, fun h => by cases h⟩, fun k row hx => ?_⟩
    have hk : k < xss.length := (List.getElem?_eq_some_iff.1 hx).1
    have hu : us[k]? = some us[k] := by simp [hl, hk]
    obtain ⟨lo, hi, -, h2, -⟩ := h1 k _ row hu hx
    refine ⟨g, 0, us[k], rfl, ?_, ?_, h2.now⟩
    · rw [Nat.zero_add, World.ownsRow.cellAt hr (k * 2) (by omega)]; exact pairsV_0 m us k (by omega)
    · rw [Nat.zero_add, World.ownsRow.cellAt hr (k * 2 + 1) (by omega), pairsV_1]; exact hu
/-- A reading that lives on. -/
theorem OwLS.rds {w : World} {B : Nat} {v : Value} {m : Int} {xss : List (List Int)} (h : OwLS w B v m xss) : Rds B w.heap.size w (fun x => RdLS x v m xss) := by
  refine ⟨Nat.le_refl _, fun u hk => ?_⟩
  obtain ⟨us, hl, hr, h1⟩ := h
  refine OwLS.rd (B := B) ⟨us, hl, ⟨hr.1, ?_⟩, fun k z row hu hx => ?_⟩
  · rcases hr.2 with h | ⟨g, cap, cur, hv, hg, hh, r⟩
    · exact .inl h
    · have hlt : g < w.heap.size := (Array.getElem?_eq_some_iff.1 hh).1
      exact .inr ⟨g, cap, cur, hv, hg, by rw [hk g hg hlt]; exact hh, r⟩
  · obtain ⟨lo, hi, h0, h2, h3⟩ := h1 k z row hu hx
    have hsz : hi ≤ u.heap.size ∨ hi ≤ lo := by
      by_cases e : lo < hi
      · left
        have h4 := h2.1
        have h5 := hk (hi - 1) (by omega) (by omega)
        have h6 : hi - 1 < w.heap.size := by omega
        rw [Array.getElem?_eq_getElem h6] at h5
        have := (Array.getElem?_eq_some_iff.1 h5).1
        omega
      · right; omega
    rcases hsz with hsz | hsz
    · exact ⟨lo, hi, h0, ⟨hsz, fun x hx' => h2.2 x (fun k' a b => (hx' k' a b).trans (hk k' (by omega) (by have := h2.1; omega)))⟩, h3⟩
    · exact ⟨B, B, Nat.le_refl _, ⟨by
        rcases hr.2 with ⟨hv, h0⟩ | ⟨g, cap, cur, hv, hg, hh, r⟩
        · have : k < xss.length := (List.getElem?_eq_some_iff.1 hx).1
          omega
        · have hlt : g < w.heap.size := (Array.getElem?_eq_some_iff.1 hh).1
          have h5 := hk g hg hlt
          rw [hh] at h5
          have := (Array.getElem?_eq_some_iff.1 h5).1
          omega, fun x _ => h2.2 x (fun k' a b => by omega)⟩, fun b _ => by omega⟩
theorem info_S : (Try.prog.info? 41).map (fun i => (i.zero, i.size, i.bytes)) = some (some (.agg #[.int .i64 0, .slice none 0 0]), 2, 32) := by kernel_rfl

section
variable {ops : Array Oper} {rest : List Oper} {o : Oper} {a : Act} {Q : Exit → Act → World → Prop}
/-- append(list, element): the element lies in two cells of its own. -/
theorem wpApLS {K : Act → World → Prop} (W : World) (s x : Operand) (hop : o.op = .call { callee := .builtin .append, args := #[s, x], argTypes := #[93, 93] })
    (B : Nat) (v : Value) (m : Int) (xss : List (List Int)) (hs : a.eval s = v) (hown : OwLS W B v m xss) (hB : B ≤ W.heap.size) (u : Value) (row : (List Int)) (k : Nat) (hx : a.eval x = .slice (some ⟨k, 0, none⟩) 1 1)
    (hc0 : W.cell? ⟨k, 0, none⟩ = some (.int .i64 m)) (hc1 : W.cell? ⟨k, 1, none⟩ = some u) (hone : u.oneCell' = true) (hu : ∃ lo hi, B ≤ lo ∧ Rds lo hi W (fun x => RdI x u row) ∧ ∀ b : Nat, v.ownBlock = some b → b < lo ∨ hi ≤ b) (hn : xss.length < 1048576)
    (hK : ∀ g cap w', OwLS w' B (.slice (some ⟨g, 0, none⟩) (xss.length + 1) cap) m (xss ++ [row]) → W.grownBy w' v.ownBlock → Below B W w' → K (a.put o.dst (.slice (some ⟨g, 0, none⟩) (xss.length + 1) cap)) w') :
    Oper.wp Try.prog o a W K Q := by
  obtain ⟨i0, hi, hz0, hz1, hz2⟩ := info_parts info_S
  obtain ⟨us, hl, hr, h1⟩ := hown
  refine wp_append_lies W s x 93 hop B 41 i0 (.agg #[.int .i64 0, .slice none 0 0]) 2 32 Try.underlying93 hi hz0 hz1 hz2 rfl (by decide) v xss.length (pairsV m us) hs hr ⟨k, 0, none⟩ 1 1 [.int .i64 m, u] hx rfl (fun j u' hj => ?_) (fun u' hu' => ?_) (by decide) (by unfold maxLen; omega) (by omega) hB W.heap.size rfl ?_
  · match j with
    | 0 => simp at hj; subst hj; simpa [Addr.add] using hc0
    | 1 => simp at hj; subst hj; simpa [Addr.add] using hc1
    | j + 2 => simp at hj
  · simp at hu'; rcases hu' with rfl | rfl
    · rfl
    · exact hone
  · intro g cap w' hown' hgrow hlies hglt
    have hgb : Below B W w' := Below.grown (Below.refl B W) hgrow hB (fun b hb => (hr.lt b hb).1)
    have hg2 : ∀ lo hi, hi ≤ W.heap.size → (∀ b : Nat, v.ownBlock = some b → b < lo ∨ hi ≤ b) → ∀ b : Nat, (Value.slice (some ⟨g, 0, none⟩) (xss.length + 1) cap).ownBlock = some b → b < lo ∨ hi ≤ b := by
      intro lo hi hh hv b hb
      simp only [Value.ownBlock, Option.some.injEq] at hb
      subst hb
      rcases hlies with h | rfl
      · exact hv _ h
      · exact .inr hh
    refine hK g cap w' ⟨us ++ [u], by simp [hl], by rw [List.length_append, pairsV_app]; exact hown', fun i u' r hi' hxi => ?_⟩ hgrow hgb
    rw [List.getElem?_append] at hi' hxi
    by_cases hil : i < us.length
    · rw [if_pos hil] at hi'
      rw [if_pos (by omega)] at hxi
      obtain ⟨lo, hi, h0, h2, h3⟩ := h1 i u' r hi' hxi
      exact ⟨lo, hi, h0, h2.grown hgrow h3, hg2 lo hi h2.1 h3⟩
    · rw [if_neg hil] at hi'
      rw [if_neg (by omega)] at hxi
      have e1 : i - us.length = 0 := by
        have := (List.getElem?_eq_some_iff.1 hi').1; simp at this; omega
      rw [show i - xss.length = 0 by omega] at hxi
      rw [e1] at hi'
      simp at hi' hxi
      subst hi' hxi
      obtain ⟨lo, hi, h0, h2, h3⟩ := hu
      exact ⟨lo, hi, h0, h2.grown hgrow h3, hg2 lo hi h2.1 h3⟩
theorem stLS {K : Act → World → Prop} {E : Prop} (W : World) (hg : o.guard = none) (s x : Operand) (hop : o.op = .call { callee := .builtin .append, args := #[s, x], argTypes := #[93, 93] })
    (B : Nat) (v : Value) (m : Int) (xss : List (List Int)) (hs : a.eval s = v) (hown : OwLS W B v m xss) (hB : B ≤ W.heap.size) (u : Value) (row : (List Int)) (k : Nat) (hx : a.eval x = .slice (some ⟨k, 0, none⟩) 1 1)
    (hc0 : W.cell? ⟨k, 0, none⟩ = some (.int .i64 m)) (hc1 : W.cell? ⟨k, 1, none⟩ = some u) (hone : u.oneCell' = true) (hu : ∃ lo hi, B ≤ lo ∧ Rds lo hi W (fun x => RdI x u row) ∧ ∀ b : Nat, v.ownBlock = some b → b < lo ∨ hi ≤ b) (hn : xss.length < 1048576)
    (hK : ∀ g cap w', OwLS w' B (.slice (some ⟨g, 0, none⟩) (xss.length + 1) cap) m (xss ++ [row]) → W.grownBy w' v.ownBlock → Below B W w' → K (a.put o.dst (.slice (some ⟨g, 0, none⟩) (xss.length + 1) cap)) w') :
    if Region.wanted o (yielded ops a.tmps) = true then Oper.wp Try.prog o a W K Q else E := by
  have hw : Region.wanted o (yielded ops a.tmps) = true := by simp [Region.wanted, hg]
  rw [if_pos hw]
  exact wpApLS W s x hop B v m xss hs hown hB u row k hx hc0 hc1 hone hu hn hK
end
/-- A list of one element, written out. -/
theorem OwLS.lit1 (w : World) (m : Int) (u : Value) (row : (List Int)) {lo hi : Nat} (hu : Rds lo hi w (fun x => RdI x u row)) (hB : lo ≤ w.heap.size) : OwLS (w.alloc (.cells #[.int .i64 m, u] 41)) lo (.slice (some ⟨w.heap.size, 0, none⟩) 1 1) m [row] := by
  have hr := World.ownsRow_lit (base := lo) (e := 41) (size := 2) w #[.int .i64 m, u] 1 hB (by unfold maxLen; omega) rfl
  refine ⟨[u], rfl, hr, fun k u' r hk hx => ?_⟩
  have : k = 0 := by have := (List.getElem?_eq_some_iff.1 hk).1; simp at this; omega
  subst this
  simp at hk hx
  subst hk hx
  refine ⟨lo, hi, Nat.le_refl _, hu.grown (World.grownBy_alloc w _ none) (fun b hb => by cases hb), fun b hb => ?_⟩
  simp only [Value.ownBlock, Option.some.injEq] at hb
  subst hb
  exact .inr hu.1
/-- v reads as a list. -/
def RdLP (w : World) (v : Value) (m : Int) (xss : List (List (List Int))) : Prop :=
  ∃ o c, v = .slice o xss.length c ∧ (xss.length ≤ maxLen ∧ xss.length ≤ c ∧ (o = none → c = 0)) ∧
    (∀ (k : Nat) (row : (List (List Int))), xss[k]? = some row → ∃ b off u, o = some ⟨b, off, none⟩ ∧ w.cell? ⟨b, off + k * 2, none⟩ = some (.int .i64 m) ∧ w.cell? ⟨b, off + k * 2 + 1, none⟩ = some u ∧ RdT w u row)
theorem RdLP.below {B : Nat} {w w' : World} {v : Value} {m : Int} {xss : List (List (List Int))} (h : RdLP w v m xss) (hb : Below B w w') (hB : w.heap.size ≤ B) : RdLP w' v m xss := by
  obtain ⟨o, c, rfl, hm, hc⟩ := h
  refine ⟨o, c, rfl, hm, fun k row hx => ?_⟩
  obtain ⟨b, off, u, ho, h0, h1, hr⟩ := hc k row hx
  exact ⟨b, off, u, ho, keep_cell hb hB h0, keep_cell hb hB h1, hr.below hb hB⟩
theorem RdLP.len {w : World} {o : Option Addr} {n c : Nat} {m : Int} {xss : List (List (List Int))} (h : RdLP w (.slice o n c) m xss) : n = xss.length ∧ xss.length ≤ maxLen ∧ xss.length ≤ c := by
  obtain ⟨o', c', heq, hm, hc⟩ := h
  obtain ⟨rfl, rfl, rfl⟩ : o = o' ∧ n = xss.length ∧ c = c' := by simpa using heq
  exact ⟨rfl, hm.1, hm.2.1⟩
theorem RdLP.base {w : World} {o : Option Addr} {n c : Nat} {m : Int} {xss : List (List (List Int))} (h : RdLP w (.slice o n c) m xss) (hx : 1 ≤ xss.length) : ∃ b off, o = some ⟨b, off, none⟩ := by
  obtain ⟨o', c', heq, hm, hc⟩ := h
  obtain ⟨rfl, rfl, rfl⟩ : o = o' ∧ n = xss.length ∧ c = c' := by simpa using heq
  obtain ⟨b, off, u, ho, -⟩ := hc 0 xss[0] (by simp)
  exact ⟨b, off, ho⟩
theorem RdLP.at {w : World} {b off n c : Nat} {m : Int} {xss : List (List (List Int))} (h : RdLP w (.slice (some ⟨b, off, none⟩) n c) m xss) {k : Nat} {row : (List (List Int))} (hx : xss[k]? = some row) :
    ∃ o c, w.cell? ⟨b, off + k * 2, none⟩ = some (.int .i64 m) ∧ w.cell? ⟨b, off + k * 2 + 1, none⟩ = some (.slice o row.length c) ∧ RdT w (.slice o row.length c) row := by
  obtain ⟨o', c', heq, hm, hc⟩ := h
  obtain ⟨rfl, -, -⟩ : some ⟨b, off, none⟩ = o' ∧ n = xss.length ∧ c = c' := by simpa using heq
  obtain ⟨b', off', u, ho, h0, h1, h2⟩ := hc k row hx
  obtain ⟨rfl, rfl⟩ : b = b' ∧ off = off' := by simpa using ho
  obtain ⟨o, c, rfl, -, -⟩ := id h2
  exact ⟨o, c, h0, h1, h2⟩

/-- The call's own list. -/
def OwLP (w : World) (B : Nat) (v : Value) (m : Int) (xss : List (List (List Int))) : Prop :=
  ∃ us : List Value, us.length = xss.length ∧ w.ownsRow B 29 2 v xss.length (pairsV m us) ∧
    (∀ (k : Nat) (u : Value) (row : (List (List Int))), us[k]? = some u → xss[k]? = some row → ∃ lo hi, B ≤ lo ∧ Rds lo hi w (fun x => RdT x u row) ∧ ∀ b : Nat, v.ownBlock = some b → b < lo ∨ hi ≤ b)
theorem OwLP.shape {w : World} {B : Nat} {v : Value} {m : Int} {xss : List (List (List Int))} (h : OwLP w B v m xss) : ∃ o c, v = .slice o xss.length c := by
  obtain ⟨us, hl, ⟨_, hr⟩, -⟩ := h
  rcases hr with ⟨rfl, h0⟩ | ⟨g, cap, cur, rfl, -⟩
  · exact ⟨none, 0, by rw [h0]⟩
  · exact ⟨_, _, rfl⟩
theorem OwLP.shapeN {w : World} {B n : Nat} {v : Value} {m : Int} {xss : List (List (List Int))} (h : OwLP w B v m xss) (hl : xss.length = n) : ∃ o c, v = .slice o n c := by
  obtain ⟨o, c, rfl⟩ := h.shape; exact ⟨o, c, by rw [hl]⟩
theorem OwLP.mono {w : World} {B B' : Nat} {v : Value} {m : Int} {xss : List (List (List Int))} (h : OwLP w B v m xss) (hB : B' ≤ B) : OwLP w B' v m xss := by
  obtain ⟨us, hl, hr, h1⟩ := h
  refine ⟨us, hl, ⟨hr.1, ?_⟩, fun k u row hu hx => ?_⟩
  rcases hr.2 with h | ⟨g, cap, cur, hv, hg, r⟩
  · exact .inl h
  · exact .inr ⟨g, cap, cur, hv, by omega, r⟩
  obtain ⟨lo, hi, h0, h2, h3⟩ := h1 k u row hu hx
  exact ⟨lo, hi, by omega, h2, h3⟩
theorem OwLP.lt {w : World} {B : Nat} {v : Value} {m : Int} {xss : List (List (List Int))} (h : OwLP w B v m xss) : ∀ k, v.ownBlock = some k → B ≤ k ∧ k < w.heap.size := by
  obtain ⟨us, hl, hr, -⟩ := h; exact hr.lt
theorem OwLP.below {w w' : World} {B : Nat} {v : Value} {m : Int} {xss : List (List (List Int))} (h : OwLP w B v m xss) (hb : Below w.heap.size w w') : OwLP w' B v m xss := by
  obtain ⟨us, hl, hr, h1⟩ := h
  refine ⟨us, hl, hr.kept (row := none) ⟨hb.os, hb.tape, hb.output, hb.size, fun k hk _ => hb.block k hk⟩ (by cases e : v.ownBlock <;> simp), fun k u row hu hx => ?_⟩
  obtain ⟨lo, hi, h0, h2, h3⟩ := h1 k u row hu hx
  exact ⟨lo, hi, h0, h2.below hb, h3⟩
theorem OwLP.rd {w : World} {B : Nat} {v : Value} {m : Int} {xss : List (List (List Int))} (h : OwLP w B v m xss) : RdLP w v m xss := by
  obtain ⟨us, hl, hr, h1⟩ := h
  rcases id hr.2 with ⟨rfl, h0⟩ | ⟨g, cap, cur, rfl, hg, hh, hn, hcm, hcs, ht⟩
  · have : xss = [] := List.eq_nil_of_length_eq_zero h0
    subst this
    exact ⟨none, 0, rfl, ⟨Nat.zero_le _, Nat.zero_le _, fun _ => rfl⟩, fun k row hx => by simp at hx⟩
  · refine ⟨_, _, rfl, ⟨by omega, hn, fun h => by cases h⟩, fun k row hx => ?_⟩
    have hk : k < xss.length := (List.getElem?_eq_some_iff.1 hx).1
    have hu : us[k]? = some us[k] := by simp [hl, hk]
    obtain ⟨lo, hi, -, h2, -⟩ := h1 k _ row hu hx
    refine ⟨g, 0, us[k], rfl, ?_, ?_, h2.now⟩
    · rw [Nat.zero_add, World.ownsRow.cellAt hr (k * 2) (by omega)]; exact pairsV_0 m us k (by omega)
    · rw [Nat.zero_add, World.ownsRow.cellAt hr (k * 2 + 1) (by omega), pairsV_1]; exact hu
/-- A reading that lives on. -/
theorem OwLP.rds {w : World} {B : Nat} {v : Value} {m : Int} {xss : List (List (List Int))} (h : OwLP w B v m xss) : Rds B w.heap.size w (fun x => RdLP x v m xss) := by
  refine ⟨Nat.le_refl _, fun u hk => ?_⟩
  obtain ⟨us, hl, hr, h1⟩ := h
  refine OwLP.rd (B := B) ⟨us, hl, ⟨hr.1, ?_⟩, fun k z row hu hx => ?_⟩
  · rcases hr.2 with h | ⟨g, cap, cur, hv, hg, hh, r⟩
    · exact .inl h
    · have hlt : g < w.heap.size := (Array.getElem?_eq_some_iff.1 hh).1
      exact .inr ⟨g, cap, cur, hv, hg, by rw [hk g hg hlt]; exact hh, r⟩
  · obtain ⟨lo, hi, h0, h2, h3⟩ := h1 k z row hu hx
    have hsz : hi ≤ u.heap.size ∨ hi ≤ lo := by
      by_cases e : lo < hi
      · left
        have h4 := h2.1
        have h5 := hk (hi - 1) (by omega) (by omega)
        have h6 : hi - 1 < w.heap.size := by omega
        rw [Array.getElem?_eq_getElem h6] at h5
        have := (Array.getElem?_eq_some_iff.1 h5).1
        omega
      · right; omega
    rcases hsz with hsz | hsz
    · exact ⟨lo, hi, h0, ⟨hsz, fun x hx' => h2.2 x (fun k' a b => (hx' k' a b).trans (hk k' (by omega) (by have := h2.1; omega)))⟩, h3⟩
    · exact ⟨B, B, Nat.le_refl _, ⟨by
        rcases hr.2 with ⟨hv, h0⟩ | ⟨g, cap, cur, hv, hg, hh, r⟩
        · have : k < xss.length := (List.getElem?_eq_some_iff.1 hx).1
          omega
        · have hlt : g < w.heap.size := (Array.getElem?_eq_some_iff.1 hh).1
          have h5 := hk g hg hlt
          rw [hh] at h5
          have := (Array.getElem?_eq_some_iff.1 h5).1
          omega, fun x _ => h2.2 x (fun k' a b => by omega)⟩, fun b _ => by omega⟩
theorem info_P : (Try.prog.info? 29).map (fun i => (i.zero, i.size, i.bytes)) = some (some (.agg #[.int .i64 0, .slice none 0 0]), 2, 32) := by kernel_rfl

section
variable {ops : Array Oper} {rest : List Oper} {o : Oper} {a : Act} {Q : Exit → Act → World → Prop}
/-- append(list, element): the element lies in two cells of its own. -/
theorem wpApLP {K : Act → World → Prop} (W : World) (s x : Operand) (hop : o.op = .call { callee := .builtin .append, args := #[s, x], argTypes := #[105, 105] })
    (B : Nat) (v : Value) (m : Int) (xss : List (List (List Int))) (hs : a.eval s = v) (hown : OwLP W B v m xss) (hB : B ≤ W.heap.size) (u : Value) (row : (List (List Int))) (k : Nat) (hx : a.eval x = .slice (some ⟨k, 0, none⟩) 1 1)
    (hc0 : W.cell? ⟨k, 0, none⟩ = some (.int .i64 m)) (hc1 : W.cell? ⟨k, 1, none⟩ = some u) (hone : u.oneCell' = true) (hu : ∃ lo hi, B ≤ lo ∧ Rds lo hi W (fun x => RdT x u row) ∧ ∀ b : Nat, v.ownBlock = some b → b < lo ∨ hi ≤ b) (hn : xss.length < 1048576)
    (hK : ∀ g cap w', OwLP w' B (.slice (some ⟨g, 0, none⟩) (xss.length + 1) cap) m (xss ++ [row]) → W.grownBy w' v.ownBlock → Below B W w' → K (a.put o.dst (.slice (some ⟨g, 0, none⟩) (xss.length + 1) cap)) w') :
    Oper.wp Try.prog o a W K Q := by
  obtain ⟨i0, hi, hz0, hz1, hz2⟩ := info_parts info_P
  obtain ⟨us, hl, hr, h1⟩ := hown
  refine wp_append_lies W s x 105 hop B 29 i0 (.agg #[.int .i64 0, .slice none 0 0]) 2 32 Try.underlying105 hi hz0 hz1 hz2 rfl (by decide) v xss.length (pairsV m us) hs hr ⟨k, 0, none⟩ 1 1 [.int .i64 m, u] hx rfl (fun j u' hj => ?_) (fun u' hu' => ?_) (by decide) (by unfold maxLen; omega) (by omega) hB W.heap.size rfl ?_
  · match j with
    | 0 => simp at hj; subst hj; simpa [Addr.add] using hc0
    | 1 => simp at hj; subst hj; simpa [Addr.add] using hc1
    | j + 2 => simp at hj
  · simp at hu'; rcases hu' with rfl | rfl
    · rfl
    · exact hone
  · intro g cap w' hown' hgrow hlies hglt
    have hgb : Below B W w' := Below.grown (Below.refl B W) hgrow hB (fun b hb => (hr.lt b hb).1)
    have hg2 : ∀ lo hi, hi ≤ W.heap.size → (∀ b : Nat, v.ownBlock = some b → b < lo ∨ hi ≤ b) → ∀ b : Nat, (Value.slice (some ⟨g, 0, none⟩) (xss.length + 1) cap).ownBlock = some b → b < lo ∨ hi ≤ b := by
      intro lo hi hh hv b hb
      simp only [Value.ownBlock, Option.some.injEq] at hb
      subst hb
      rcases hlies with h | rfl
      · exact hv _ h
      · exact .inr hh
    refine hK g cap w' ⟨us ++ [u], by simp [hl], by rw [List.length_append, pairsV_app]; exact hown', fun i u' r hi' hxi => ?_⟩ hgrow hgb
    rw [List.getElem?_append] at hi' hxi
    by_cases hil : i < us.length
    · rw [if_pos hil] at hi'
      rw [if_pos (by omega)] at hxi
      obtain ⟨lo, hi, h0, h2, h3⟩ := h1 i u' r hi' hxi
      exact ⟨lo, hi, h0, h2.grown hgrow h3, hg2 lo hi h2.1 h3⟩
    · rw [if_neg hil] at hi'
      rw [if_neg (by omega)] at hxi
      have e1 : i - us.length = 0 := by
        have := (List.getElem?_eq_some_iff.1 hi').1; simp at this; omega
      rw [show i - xss.length = 0 by omega] at hxi
      rw [e1] at hi'
      simp at hi' hxi
      subst hi' hxi
      obtain ⟨lo, hi, h0, h2, h3⟩ := hu
      exact ⟨lo, hi, h0, h2.grown hgrow h3, hg2 lo hi h2.1 h3⟩
theorem stLP {K : Act → World → Prop} {E : Prop} (W : World) (hg : o.guard = none) (s x : Operand) (hop : o.op = .call { callee := .builtin .append, args := #[s, x], argTypes := #[105, 105] })
    (B : Nat) (v : Value) (m : Int) (xss : List (List (List Int))) (hs : a.eval s = v) (hown : OwLP W B v m xss) (hB : B ≤ W.heap.size) (u : Value) (row : (List (List Int))) (k : Nat) (hx : a.eval x = .slice (some ⟨k, 0, none⟩) 1 1)
    (hc0 : W.cell? ⟨k, 0, none⟩ = some (.int .i64 m)) (hc1 : W.cell? ⟨k, 1, none⟩ = some u) (hone : u.oneCell' = true) (hu : ∃ lo hi, B ≤ lo ∧ Rds lo hi W (fun x => RdT x u row) ∧ ∀ b : Nat, v.ownBlock = some b → b < lo ∨ hi ≤ b) (hn : xss.length < 1048576)
    (hK : ∀ g cap w', OwLP w' B (.slice (some ⟨g, 0, none⟩) (xss.length + 1) cap) m (xss ++ [row]) → W.grownBy w' v.ownBlock → Below B W w' → K (a.put o.dst (.slice (some ⟨g, 0, none⟩) (xss.length + 1) cap)) w') :
    if Region.wanted o (yielded ops a.tmps) = true then Oper.wp Try.prog o a W K Q else E := by
  have hw : Region.wanted o (yielded ops a.tmps) = true := by simp [Region.wanted, hg]
  rw [if_pos hw]
  exact wpApLP W s x hop B v m xss hs hown hB u row k hx hc0 hc1 hone hu hn hK
end
/-- A list of one element, written out. -/
theorem OwLP.lit1 (w : World) (m : Int) (u : Value) (row : (List (List Int))) {lo hi : Nat} (hu : Rds lo hi w (fun x => RdT x u row)) (hB : lo ≤ w.heap.size) : OwLP (w.alloc (.cells #[.int .i64 m, u] 29)) lo (.slice (some ⟨w.heap.size, 0, none⟩) 1 1) m [row] := by
  have hr := World.ownsRow_lit (base := lo) (e := 29) (size := 2) w #[.int .i64 m, u] 1 hB (by unfold maxLen; omega) rfl
  refine ⟨[u], rfl, hr, fun k u' r hk hx => ?_⟩
  have : k = 0 := by have := (List.getElem?_eq_some_iff.1 hk).1; simp at this; omega
  subst this
  simp at hk hx
  subst hk hx
  refine ⟨lo, hi, Nat.le_refl _, hu.grown (World.grownBy_alloc w _ none) (fun b hb => by cases hb), fun b hb => ?_⟩
  simp only [Value.ownBlock, Option.some.injEq] at hb
  subst hb
  exact .inr hu.1

end Go.Proofs.Ytflebfmkgmhccaa
