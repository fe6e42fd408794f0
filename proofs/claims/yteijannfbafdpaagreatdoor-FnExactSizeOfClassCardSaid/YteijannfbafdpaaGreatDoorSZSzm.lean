/- Lemmas. -/
import Derived.Test.YteijannfbafdpaaGreatDoorSZG2
set_option linter.unusedSimpArgs false
set_option linter.unusedVariables false
namespace Go.Proofs.YteijannfbafdpaaGreatDoor
open Go.RowKit

def Rdf (E : Nat) (S : List Nat) (w : World) (R : World → Prop) : Prop := ∀ u : World, (∀ k, E ≤ k → k < w.heap.size → k ∉ S → u.heap[k]? = w.heap[k]?) → R u
theorem Rdf.now {E : Nat} {S : List Nat} {w : World} {R : World → Prop} (h : Rdf E S w R) : R w := h w (fun _ _ _ _ => rfl)
theorem Rdf.imp {E : Nat} {S : List Nat} {w : World} {R R' : World → Prop} (h : Rdf E S w R) (k : ∀ u, R u → R' u) : Rdf E S w R' := fun u hu => k u (h u hu)
theorem Rdf.step {E E' : Nat} {S S' : List Nat} {w w' : World} {R : World → Prop} (h : Rdf E S w R) (hE : E' ≤ E) (hs : w.heap.size ≤ w'.heap.size) (hk : ∀ k, E ≤ k → k < w.heap.size → k ∉ S → w'.heap[k]? = w.heap[k]?)
    (hS : ∀ s, s ∈ S' → s ∈ S ∨ w.heap.size ≤ s ∨ s < E) : Rdf E' S' w' R :=
  fun u hu => h u fun k k1 k2 k3 => (hu k (by omega) (by omega) (fun hm => by
    rcases hS k hm with h | h | h
    · exact k3 h
    · omega
    · omega)).trans (hk k k1 k2 k3)
theorem Rdf.below {E : Nat} {S : List Nat} {w w' : World} {R : World → Prop} (h : Rdf E S w R) (hb : Below w.heap.size w w') : Rdf E S w' R :=
  h.step (Nat.le_refl _) hb.size (fun k _ k2 _ => hb.block k k2) (fun s hs => .inl hs)
theorem Rdf.grown {E : Nat} {S S' : List Nat} {w w' : World} {R : World → Prop} {r : Option Nat} (h : Rdf E S w R) (hg : w.grownBy w' r) (hr : ∀ b, r = some b → b ∈ S ∨ b < E) (hS : ∀ s, s ∈ S' → s ∈ S ∨ w.heap.size ≤ s ∨ s < E) : Rdf E S' w' R :=
  h.step (Nat.le_refl _) hg.size (fun k k1 k2 k3 => hg.block k k2 (fun e => by
    rcases hr k e.symm with h | h
    · exact k3 h
    · omega)) hS
theorem Rdf.more {E : Nat} {S S' : List Nat} {w : World} {R : World → Prop} (h : Rdf E S w R) (hS : ∀ s, s ∈ S' → s ∈ S ∨ w.heap.size ≤ s ∨ s < E) : Rdf E S' w R :=
  h.step (Nat.le_refl _) (Nat.le_refl _) (fun _ _ _ _ => rfl) hS
theorem Rds.rdf {E lo hi : Nat} {S : List Nat} {w : World} {R : World → Prop} (h : Rds lo hi w R) (hE : E ≤ lo) (hS : ∀ s, s ∈ S → s < lo ∨ hi ≤ s) : Rdf E S w R :=
  fun u hu => h.2 u fun k k1 k2 => hu k (by omega) (by have := h.1; omega) (fun hm => by have := hS k hm; omega)
theorem Rdf.rds {E : Nat} {S : List Nat} {w : World} {R : World → Prop} (h : Rdf E S w R) (hS : ∀ s, s ∈ S → s < E ∨ w.heap.size ≤ s) : Rds E w.heap.size w R :=
  ⟨Nat.le_refl _, fun u hu => h u fun k k1 k2 _ => hu k k1 k2⟩
theorem OwI.rdf {w : World} {B E : Nat} {S : List Nat} {v : Value} {xs : List Int} (h : OwI w B v xs) (hB : B ≤ w.heap.size) (hE : E ≤ B) (hS : ∀ s, s ∈ S → s < B ∨ w.heap.size ≤ s) : Rdf E S w (fun x => RdI x v xs) := (OwI.rds h hB).rdf hE hS
theorem OwS.rdf {w : World} {B E : Nat} {S : List Nat} {v : Value} {xss : List (List Int)} (h : OwS w B v xss) (hE : E ≤ B) (hS : ∀ s, s ∈ S → s < B ∨ w.heap.size ≤ s) : Rdf E S w (fun x => RdT x v xss) := (OwS.rds h).rdf hE hS
theorem RdTU.rowAt {E : Nat} {S : List Nat} {us : List Value} {w : World} {b off n c : Nat} {xss : List (List Int)} (h : Rdf E S w (fun x => RdTU us x (.slice (some ⟨b, off, none⟩) n c) xss)) {k : Nat} {row : List Int} (hx : xss[k]? = some row) :
    ∃ o c', w.cell? ⟨b, off + k, none⟩ = some (.slice o row.length c') ∧ Rdf E S w (fun x => RdI x (.slice o row.length c') row) := by
  obtain ⟨o1, c1, e1, -, h1⟩ := h.now
  obtain ⟨rfl, -, -⟩ : some ⟨b, off, none⟩ = o1 ∧ n = xss.length ∧ c = c1 := by simpa using e1
  obtain ⟨b', off', u, ho, hu, h0, h2⟩ := h1 k row hx
  obtain ⟨rfl, rfl⟩ : b = b' ∧ off = off' := by simpa using ho
  obtain ⟨o, c', rfl, -, -⟩ := id h2
  refine ⟨o, c', h0, fun x hxx => ?_⟩
  obtain ⟨o3, c3, e3, -, h3⟩ := h x hxx
  obtain ⟨b3, off3, u3, -, hu3, -, h5⟩ := h3 k row hx
  rw [hu] at hu3
  obtain rfl := Option.some.inj hu3
  exact h5

def OwQR (w : World) (E B : Nat) (S : List Nat) (g n c : Nat) (xss : List (List Int)) : Prop :=
  n = xss.length ∧ ∃ us : List Value, us.length = xss.length ∧ w.ownsRow B 34 1 (.slice (some ⟨g, 0, none⟩) n c) xss.length us ∧
    (∀ (k : Nat) (u : Value) (row : List Int), us[k]? = some u → xss[k]? = some row → Rdf E (g :: S) w (fun x => RdI x u row))
theorem OwQR.lt {w : World} {E B g n c : Nat} {S : List Nat} {xss : List (List Int)} (h : OwQR w E B S g n c xss) : B ≤ g ∧ g < w.heap.size := by
  obtain ⟨-, us, hl, hr, -⟩ := h; exact hr.lt g rfl
theorem OwQR.len {w : World} {E B g n c : Nat} {S : List Nat} {xss : List (List Int)} (h : OwQR w E B S g n c xss) : n = xss.length := h.1
theorem OwQR.mono {w : World} {E B B' g n c : Nat} {S : List Nat} {xss : List (List Int)} (h : OwQR w E B S g n c xss) (hB : B' ≤ B) : OwQR w E B' S g n c xss := by
  obtain ⟨hn, us, hl, hr, h1⟩ := h
  refine ⟨hn, us, hl, ⟨hr.1, ?_⟩, h1⟩
  rcases hr.2 with h | ⟨g', cap, cur, hv, hg, r⟩
  · exact .inl h
  · exact .inr ⟨g', cap, cur, hv, by omega, r⟩
theorem OwQR.other {w w' : World} {E B g n c : Nat} {S S' : List Nat} {xss : List (List Int)} {r : Option Nat} (h : OwQR w E B S g n c xss) (hg : w.grownBy w' r) (hne : r ≠ some g) (hr' : ∀ b, r = some b → b ∈ S ∨ b < E) (hS : ∀ s, s ∈ S' → s ∈ S ∨ w.heap.size ≤ s ∨ s < E) : OwQR w' E B S' g n c xss := by
  obtain ⟨hn, us, hl, hr, h1⟩ := h
  refine ⟨hn, us, hl, hr.kept hg (.inr fun e => hne (by simpa [Value.ownBlock] using e.symm)), fun k u row hu hx => ?_⟩
  refine (h1 k u row hu hx).grown hg (fun b hb => ?_) (fun s hs => ?_)
  · rcases hr' b hb with h | h
    · exact .inl (List.mem_cons_of_mem _ h)
    · exact .inr h
  · rcases List.mem_cons.1 hs with rfl | hs
    · exact .inl List.mem_cons_self
    · rcases hS s hs with h | h
      · exact .inl (List.mem_cons_of_mem _ h)
      · exact .inr h
theorem OwQR.below {w w' : World} {E B g n c : Nat} {S : List Nat} {xss : List (List Int)} (h : OwQR w E B S g n c xss) (hb : Below w.heap.size w w') : OwQR w' E B S g n c xss :=
  h.other (r := none) ⟨hb.os, hb.tape, hb.output, hb.size, fun k hk _ => hb.block k hk⟩ (by simp) (fun b hb => by cases hb) (fun s hs => .inl hs)
theorem OwQR.cells {w : World} {E B g n c : Nat} {S : List Nat} {xss : List (List Int)} (h : OwQR w E B S g n c xss) {k : Nat} {row : List Int} (hx : xss[k]? = some row) :
    ∃ u, w.cell? ⟨g, k, none⟩ = some u ∧ Rdf E (g :: S) w (fun x => RdI x u row) := by
  obtain ⟨hn, us, hl, hr, h1⟩ := h
  subst hn
  have hk : k < xss.length := (List.getElem?_eq_some_iff.1 hx).1
  have hu : us[k]? = some us[k] := by simp [hl, hk]
  exact ⟨us[k], by rw [World.ownsRow.cellAt hr k (by omega)]; exact hu, h1 k _ row hu hx⟩
theorem OwQR.fz {w : World} {E B g n c : Nat} {S : List Nat} {xss : List (List Int)} (h : OwQR w E B S g n c xss) (k : Nat) : w.frozen? ⟨g, k, none⟩ = false := by
  obtain ⟨hn, us, hl, hr, h1⟩ := h
  subst hn
  exact World.ownsRow.frozenAt hr k
theorem OwQR.lens {w : World} {E B g n c : Nat} {S : List Nat} {xss : List (List Int)} (h : OwQR w E B S g n c xss) : xss.length ≤ maxLen ∧ xss.length ≤ c := by
  obtain ⟨hn, us, hl, hr, h1⟩ := h
  subst hn
  rcases id hr.2 with ⟨h', h0⟩ | ⟨g', cap, cur, hv, hg, hh, hcap, hcm, hcs, ht⟩
  · cases h'
  · obtain ⟨-, -, rfl⟩ := Value.slice.inj hv
    omega
theorem OwQR.put {w : World} {E B g n c : Nat} {S : List Nat} {xss : List (List Int)} (h : OwQR w E B S g n c xss) (k : Nat) {u : Value} {row : List Int} (hu : Rdf E (g :: S) w (fun x => RdI x u row)) :
    OwQR (w.setCell ⟨g, k, none⟩ u) E B S g n c (xss.set k row) := by
  obtain ⟨hn, us, hl, hr, h1⟩ := h
  subst hn
  have hgr := grown_put w g k u
  have keep : ∀ (v : Value) r, Rdf E (g :: S) w (fun x => RdI x v r) → Rdf E (g :: S) (w.setCell ⟨g, k, none⟩ u) (fun x => RdI x v r) := fun v r hv => hv.grown hgr (fun b hb => by cases hb; exact .inl List.mem_cons_self) (fun s hs => .inl hs)
  refine ⟨by simp, us.set k u, by simp [hl], by rw [List.length_set]; exact (World.ownsRow.stored hr k u).1, fun i u' r hi hxi => ?_⟩
  rw [List.getElem?_set] at hi hxi
  by_cases e : k = i
  · subst e
    rw [if_pos rfl] at hi hxi
    split at hi
    · rw [if_pos (by omega)] at hxi
      cases hi; cases hxi
      exact keep u row hu
    · cases hi
  · rw [if_neg e] at hi hxi
    exact keep u' r (h1 i u' r hi hxi)
theorem OwQR.lit0 (w : World) (E : Nat) (S : List Nat) : OwQR (w.alloc (.cells #[] 34)) E w.heap.size S w.heap.size 0 0 [] :=
  ⟨rfl, [], rfl, World.ownsRow_lit (base := w.heap.size) (e := 34) (size := 1) w #[] 0 (Nat.le_refl _) (Nat.zero_le _) rfl, by simp⟩
theorem OwQR.one (w : World) (E : Nat) (S : List Nat) (u : Value) (row : List Int) (hu : Rdf E (w.heap.size :: S) w (fun x => RdI x u row)) : OwQR (w.alloc (.cells #[u] 34)) E w.heap.size S w.heap.size 1 1 [row] :=
  ⟨rfl, [u], rfl, World.ownsRow_lit (base := w.heap.size) (e := 34) (size := 1) w #[u] 1 (Nat.le_refl _) (by unfold maxLen; omega) rfl, fun k u' r h1 h2 => by
    match k with
    | 0 =>
      simp at h1 h2; subst h1 h2
      exact hu.grown (World.grownBy_alloc w _ none) (fun b hb => by cases hb) (fun s hs => .inl hs)
    | k + 1 => simp at h1⟩

section
variable {ops : Array Oper} {rest : List Oper} {o : Oper} {a : Act} {Q : Exit → Act → World → Prop}
theorem wpQR {K : Act → World → Prop} (W : World) (s x : Operand) (hop : o.op = .call { callee := .builtin .append, args := #[s, x], argTypes := #[22, 22] })
    (E B : Nat) (S : List Nat) (g n c : Nat) (xss : List (List Int)) (hs : a.eval s = .slice (some ⟨g, 0, none⟩) n c) (hown : OwQR W E B S g n c xss) (hB : B ≤ W.heap.size) (u : Value) (row : List Int) (k : Nat) (hx : a.eval x = .slice (some ⟨k, 0, none⟩) 1 1)
    (hc0 : W.cell? ⟨k, 0, none⟩ = some u) (hone : u.oneCell' = true) (hu : Rdf E (g :: S) W (fun x => RdI x u row)) (hn : xss.length < 1048576)
    (hK : ∀ g' cap w', OwQR w' E B S g' (n + 1) cap (xss ++ [row]) → W.grownBy w' (some g) → Below B W w' → (g' = g ∨ g' = W.heap.size) → K (a.put o.dst (.slice (some ⟨g', 0, none⟩) (n + 1) cap)) w') :
    Oper.wp Tryz.prog o a W K Q := by
  obtain ⟨i0, hi, hz0, hz1, hz2⟩ := info_parts info_s
  obtain ⟨rfl, us, hl, hr, h1⟩ := hown
  refine wp_append_lies W s x 22 hop B 34 i0 (.slice none 0 0) 1 24 Tryz.underlying22 hi hz0 hz1 hz2 rfl (by decide) (.slice (some ⟨g, 0, none⟩) xss.length c) xss.length us hs hr ⟨k, 0, none⟩ 1 1 [u] hx rfl (fun j u' hj => ?_) (fun u' hu' => ?_) (by decide) (by unfold maxLen; omega) (by omega) hB W.heap.size rfl ?_
  · match j with
    | 0 => simp at hj; subst hj; simpa [Addr.add] using hc0
    | j + 1 => simp at hj
  · simp at hu'; subst hu'; exact hone
  · intro g' cap w' hown' hgrow hlies hglt
    have hgl := hr.lt g rfl
    have hgb : Below B W w' := Below.grown (Below.refl B W) hgrow hB (fun b hb => (hr.lt b hb).1)
    have hl' : g' = g ∨ g' = W.heap.size := by
      rcases hlies with h | h
      · left; simp only [Value.ownBlock, Option.some.injEq] at h; exact h.symm
      · exact .inr h
    have hg0 : W.grownBy w' (some g) := hgrow
    refine hK g' cap w' ⟨by simp, us ++ [u], by simp [hl], by rw [List.length_append]; exact hown', fun i u' r hi' hxi => ?_⟩ hg0 hgb hl'
    rw [List.getElem?_append] at hi' hxi
    have fin : Rdf E (g :: S) W (fun x => RdI x u' r) → Rdf E (g' :: S) w' (fun x => RdI x u' r) := fun h2 =>
      h2.grown hg0 (fun b hb => by cases hb; exact .inl List.mem_cons_self) (fun s hs => by
        rcases List.mem_cons.1 hs with rfl | hs
        · rcases hl' with h | h
          · exact .inl (by rw [h]; exact List.mem_cons_self)
          · exact .inr (.inl (by omega))
        · exact .inl (List.mem_cons_of_mem _ hs))
    by_cases hil : i < us.length
    · rw [if_pos hil] at hi'
      rw [if_pos (by omega)] at hxi
      exact fin (h1 i u' r hi' hxi)
    · rw [if_neg hil] at hi'
      rw [if_neg (by omega)] at hxi
      have e1 : i - us.length = 0 := by
        have := (List.getElem?_eq_some_iff.1 hi').1; simp at this; omega
      rw [show i - xss.length = 0 by omega] at hxi
      rw [e1] at hi'
      simp at hi' hxi
      subst hi' hxi
      exact fin hu
theorem apQR (W : World) (hg : o.guard = none) (s x : Operand) (hop : o.op = .call { callee := .builtin .append, args := #[s, x], argTypes := #[22, 22] })
    (E B : Nat) (S : List Nat) (g n c : Nat) (xss : List (List Int)) (hs : a.eval s = .slice (some ⟨g, 0, none⟩) n c) (hown : OwQR W E B S g n c xss) (hB : B ≤ W.heap.size) (u : Value) (row : List Int) (k : Nat) (hx : a.eval x = .slice (some ⟨k, 0, none⟩) 1 1)
    (hc0 : W.cell? ⟨k, 0, none⟩ = some u) (hone : u.oneCell' = true) (hu : Rdf E (g :: S) W (fun x => RdI x u row)) (hn : xss.length < 1048576)
    (hK : ∀ g' cap w', OwQR w' E B S g' (n + 1) cap (xss ++ [row]) → W.grownBy w' (some g) → Below B W w' → (g' = g ∨ g' = W.heap.size) → wpList Tryz.prog ops Q rest (a.put o.dst (.slice (some ⟨g', 0, none⟩) (n + 1) cap)) w') :
    wpList Tryz.prog ops Q (o :: rest) a W :=
  wpList_plain hg fun _ hK' => wpQR W s x hop E B S g n c xss hs hown hB u row k hx hc0 hone hu hn fun g' cap w' h1 h2 h3 h4 => hK' _ _ (hK g' cap w' h1 h2 h3 h4)
end
def OwQT (w : World) (E B : Nat) (S : List Nat) (g n c : Nat) (xss : List (List (List Int))) : Prop :=
  n = xss.length ∧ ∃ us : List Value, us.length = xss.length ∧ w.ownsRow B 22 1 (.slice (some ⟨g, 0, none⟩) n c) xss.length us ∧
    (∀ (k : Nat) (u : Value) (row : List (List Int)), us[k]? = some u → xss[k]? = some row → Rdf E (g :: S) w (fun x => RdT x u row))
theorem OwQT.lt {w : World} {E B g n c : Nat} {S : List Nat} {xss : List (List (List Int))} (h : OwQT w E B S g n c xss) : B ≤ g ∧ g < w.heap.size := by
  obtain ⟨-, us, hl, hr, -⟩ := h; exact hr.lt g rfl
theorem OwQT.len {w : World} {E B g n c : Nat} {S : List Nat} {xss : List (List (List Int))} (h : OwQT w E B S g n c xss) : n = xss.length := h.1
theorem OwQT.mono {w : World} {E B B' g n c : Nat} {S : List Nat} {xss : List (List (List Int))} (h : OwQT w E B S g n c xss) (hB : B' ≤ B) : OwQT w E B' S g n c xss := by
  obtain ⟨hn, us, hl, hr, h1⟩ := h
  refine ⟨hn, us, hl, ⟨hr.1, ?_⟩, h1⟩
  rcases hr.2 with h | ⟨g', cap, cur, hv, hg, r⟩
  · exact .inl h
  · exact .inr ⟨g', cap, cur, hv, by omega, r⟩
theorem OwQT.other {w w' : World} {E B g n c : Nat} {S S' : List Nat} {xss : List (List (List Int))} {r : Option Nat} (h : OwQT w E B S g n c xss) (hg : w.grownBy w' r) (hne : r ≠ some g) (hr' : ∀ b, r = some b → b ∈ S ∨ b < E) (hS : ∀ s, s ∈ S' → s ∈ S ∨ w.heap.size ≤ s ∨ s < E) : OwQT w' E B S' g n c xss := by
  obtain ⟨hn, us, hl, hr, h1⟩ := h
  refine ⟨hn, us, hl, hr.kept hg (.inr fun e => hne (by simpa [Value.ownBlock] using e.symm)), fun k u row hu hx => ?_⟩
  refine (h1 k u row hu hx).grown hg (fun b hb => ?_) (fun s hs => ?_)
  · rcases hr' b hb with h | h
    · exact .inl (List.mem_cons_of_mem _ h)
    · exact .inr h
  · rcases List.mem_cons.1 hs with rfl | hs
    · exact .inl List.mem_cons_self
    · rcases hS s hs with h | h
      · exact .inl (List.mem_cons_of_mem _ h)
      · exact .inr h
theorem OwQT.below {w w' : World} {E B g n c : Nat} {S : List Nat} {xss : List (List (List Int))} (h : OwQT w E B S g n c xss) (hb : Below w.heap.size w w') : OwQT w' E B S g n c xss :=
  h.other (r := none) ⟨hb.os, hb.tape, hb.output, hb.size, fun k hk _ => hb.block k hk⟩ (by simp) (fun b hb => by cases hb) (fun s hs => .inl hs)
theorem OwQT.cells {w : World} {E B g n c : Nat} {S : List Nat} {xss : List (List (List Int))} (h : OwQT w E B S g n c xss) {k : Nat} {row : List (List Int)} (hx : xss[k]? = some row) :
    ∃ u, w.cell? ⟨g, k, none⟩ = some u ∧ Rdf E (g :: S) w (fun x => RdT x u row) := by
  obtain ⟨hn, us, hl, hr, h1⟩ := h
  subst hn
  have hk : k < xss.length := (List.getElem?_eq_some_iff.1 hx).1
  have hu : us[k]? = some us[k] := by simp [hl, hk]
  exact ⟨us[k], by rw [World.ownsRow.cellAt hr k (by omega)]; exact hu, h1 k _ row hu hx⟩
theorem OwQT.fz {w : World} {E B g n c : Nat} {S : List Nat} {xss : List (List (List Int))} (h : OwQT w E B S g n c xss) (k : Nat) : w.frozen? ⟨g, k, none⟩ = false := by
  obtain ⟨hn, us, hl, hr, h1⟩ := h
  subst hn
  exact World.ownsRow.frozenAt hr k
theorem OwQT.lens {w : World} {E B g n c : Nat} {S : List Nat} {xss : List (List (List Int))} (h : OwQT w E B S g n c xss) : xss.length ≤ maxLen ∧ xss.length ≤ c := by
  obtain ⟨hn, us, hl, hr, h1⟩ := h
  subst hn
  rcases id hr.2 with ⟨h', h0⟩ | ⟨g', cap, cur, hv, hg, hh, hcap, hcm, hcs, ht⟩
  · cases h'
  · obtain ⟨-, -, rfl⟩ := Value.slice.inj hv
    omega
theorem OwQT.put {w : World} {E B g n c : Nat} {S : List Nat} {xss : List (List (List Int))} (h : OwQT w E B S g n c xss) (k : Nat) {u : Value} {row : List (List Int)} (hu : Rdf E (g :: S) w (fun x => RdT x u row)) :
    OwQT (w.setCell ⟨g, k, none⟩ u) E B S g n c (xss.set k row) := by
  obtain ⟨hn, us, hl, hr, h1⟩ := h
  subst hn
  have hgr := grown_put w g k u
  have keep : ∀ (v : Value) r, Rdf E (g :: S) w (fun x => RdT x v r) → Rdf E (g :: S) (w.setCell ⟨g, k, none⟩ u) (fun x => RdT x v r) := fun v r hv => hv.grown hgr (fun b hb => by cases hb; exact .inl List.mem_cons_self) (fun s hs => .inl hs)
  refine ⟨by simp, us.set k u, by simp [hl], by rw [List.length_set]; exact (World.ownsRow.stored hr k u).1, fun i u' r hi hxi => ?_⟩
  rw [List.getElem?_set] at hi hxi
  by_cases e : k = i
  · subst e
    rw [if_pos rfl] at hi hxi
    split at hi
    · rw [if_pos (by omega)] at hxi
      cases hi; cases hxi
      exact keep u row hu
    · cases hi
  · rw [if_neg e] at hi hxi
    exact keep u' r (h1 i u' r hi hxi)
theorem OwQT.lit0 (w : World) (E : Nat) (S : List Nat) : OwQT (w.alloc (.cells #[] 22)) E w.heap.size S w.heap.size 0 0 [] :=
  ⟨rfl, [], rfl, World.ownsRow_lit (base := w.heap.size) (e := 22) (size := 1) w #[] 0 (Nat.le_refl _) (Nat.zero_le _) rfl, by simp⟩
theorem OwQT.one (w : World) (E : Nat) (S : List Nat) (u : Value) (row : List (List Int)) (hu : Rdf E (w.heap.size :: S) w (fun x => RdT x u row)) : OwQT (w.alloc (.cells #[u] 22)) E w.heap.size S w.heap.size 1 1 [row] :=
  ⟨rfl, [u], rfl, World.ownsRow_lit (base := w.heap.size) (e := 22) (size := 1) w #[u] 1 (Nat.le_refl _) (by unfold maxLen; omega) rfl, fun k u' r h1 h2 => by
    match k with
    | 0 =>
      simp at h1 h2; subst h1 h2
      exact hu.grown (World.grownBy_alloc w _ none) (fun b hb => by cases hb) (fun s hs => .inl hs)
    | k + 1 => simp at h1⟩

section
variable {ops : Array Oper} {rest : List Oper} {o : Oper} {a : Act} {Q : Exit → Act → World → Prop}
theorem wpQT {K : Act → World → Prop} (W : World) (s x : Operand) (hop : o.op = .call { callee := .builtin .append, args := #[s, x], argTypes := #[37, 37] })
    (E B : Nat) (S : List Nat) (g n c : Nat) (xss : List (List (List Int))) (hs : a.eval s = .slice (some ⟨g, 0, none⟩) n c) (hown : OwQT W E B S g n c xss) (hB : B ≤ W.heap.size) (u : Value) (row : List (List Int)) (k : Nat) (hx : a.eval x = .slice (some ⟨k, 0, none⟩) 1 1)
    (hc0 : W.cell? ⟨k, 0, none⟩ = some u) (hone : u.oneCell' = true) (hu : Rdf E (g :: S) W (fun x => RdT x u row)) (hn : xss.length < 1048576)
    (hK : ∀ g' cap w', OwQT w' E B S g' (n + 1) cap (xss ++ [row]) → W.grownBy w' (some g) → Below B W w' → (g' = g ∨ g' = W.heap.size) → K (a.put o.dst (.slice (some ⟨g', 0, none⟩) (n + 1) cap)) w') :
    Oper.wp Tryz.prog o a W K Q := by
  obtain ⟨i0, hi, hz0, hz1, hz2⟩ := info_parts info_t
  obtain ⟨rfl, us, hl, hr, h1⟩ := hown
  refine wp_append_lies W s x 37 hop B 22 i0 (.slice none 0 0) 1 24 Tryz.underlying37 hi hz0 hz1 hz2 rfl (by decide) (.slice (some ⟨g, 0, none⟩) xss.length c) xss.length us hs hr ⟨k, 0, none⟩ 1 1 [u] hx rfl (fun j u' hj => ?_) (fun u' hu' => ?_) (by decide) (by unfold maxLen; omega) (by omega) hB W.heap.size rfl ?_
  · match j with
    | 0 => simp at hj; subst hj; simpa [Addr.add] using hc0
    | j + 1 => simp at hj
  · simp at hu'; subst hu'; exact hone
  · intro g' cap w' hown' hgrow hlies hglt
    have hgl := hr.lt g rfl
    have hgb : Below B W w' := Below.grown (Below.refl B W) hgrow hB (fun b hb => (hr.lt b hb).1)
    have hl' : g' = g ∨ g' = W.heap.size := by
      rcases hlies with h | h
      · left; simp only [Value.ownBlock, Option.some.injEq] at h; exact h.symm
      · exact .inr h
    have hg0 : W.grownBy w' (some g) := hgrow
    refine hK g' cap w' ⟨by simp, us ++ [u], by simp [hl], by rw [List.length_append]; exact hown', fun i u' r hi' hxi => ?_⟩ hg0 hgb hl'
    rw [List.getElem?_append] at hi' hxi
    have fin : Rdf E (g :: S) W (fun x => RdT x u' r) → Rdf E (g' :: S) w' (fun x => RdT x u' r) := fun h2 =>
      h2.grown hg0 (fun b hb => by cases hb; exact .inl List.mem_cons_self) (fun s hs => by
        rcases List.mem_cons.1 hs with rfl | hs
        · rcases hl' with h | h
          · exact .inl (by rw [h]; exact List.mem_cons_self)
          · exact .inr (.inl (by omega))
        · exact .inl (List.mem_cons_of_mem _ hs))
    by_cases hil : i < us.length
    · rw [if_pos hil] at hi'
      rw [if_pos (by omega)] at hxi
      exact fin (h1 i u' r hi' hxi)
    · rw [if_neg hil] at hi'
      rw [if_neg (by omega)] at hxi
      have e1 : i - us.length = 0 := by
        have := (List.getElem?_eq_some_iff.1 hi').1; simp at this; omega
      rw [show i - xss.length = 0 by omega] at hxi
      rw [e1] at hi'
      simp at hi' hxi
      subst hi' hxi
      exact fin hu
theorem apQT (W : World) (hg : o.guard = none) (s x : Operand) (hop : o.op = .call { callee := .builtin .append, args := #[s, x], argTypes := #[37, 37] })
    (E B : Nat) (S : List Nat) (g n c : Nat) (xss : List (List (List Int))) (hs : a.eval s = .slice (some ⟨g, 0, none⟩) n c) (hown : OwQT W E B S g n c xss) (hB : B ≤ W.heap.size) (u : Value) (row : List (List Int)) (k : Nat) (hx : a.eval x = .slice (some ⟨k, 0, none⟩) 1 1)
    (hc0 : W.cell? ⟨k, 0, none⟩ = some u) (hone : u.oneCell' = true) (hu : Rdf E (g :: S) W (fun x => RdT x u row)) (hn : xss.length < 1048576)
    (hK : ∀ g' cap w', OwQT w' E B S g' (n + 1) cap (xss ++ [row]) → W.grownBy w' (some g) → Below B W w' → (g' = g ∨ g' = W.heap.size) → wpList Tryz.prog ops Q rest (a.put o.dst (.slice (some ⟨g', 0, none⟩) (n + 1) cap)) w') :
    wpList Tryz.prog ops Q (o :: rest) a W :=
  wpList_plain hg fun _ hK' => wpQT W s x hop E B S g n c xss hs hown hB u row k hx hc0 hone hu hn fun g' cap w' h1 h2 h3 h4 => hK' _ _ (hK g' cap w' h1 h2 h3 h4)
end
theorem OwQR.fix {w : World} {E B g n c : Nat} {S S' : List Nat} {xss : List (List Int)} (h : OwQR w E B S g n c xss) (hg : g ∉ S) (hE : E ≤ g) (hS : ∀ s, s ∈ S' → s ∈ S ∨ w.heap.size ≤ s ∨ s < E) : ∃ us, Rdf E S' w (fun x => RdTU us x (.slice (some ⟨g, 0, none⟩) n c) xss) := by
  have hlt := h.lt
  have hlens := h.lens
  obtain ⟨hn, us, hl, hr, h1⟩ := h
  subst hn
  refine ⟨us, Rdf.more (S := S) (fun x hx => ⟨_, _, rfl, ⟨hlens.1, hlens.2, fun e => by cases e⟩, fun k row hk => ?_⟩) hS⟩
  have hk' : k < xss.length := (List.getElem?_eq_some_iff.1 hk).1
  have hu : us[k]? = some us[k] := by simp [hl, hk']
  refine ⟨g, 0, us[k], rfl, hu, ?_, h1 k _ row hu hk x fun j j1 j2 j3 => hx j j1 j2 (fun hm => j3 (List.mem_cons_of_mem _ hm))⟩
  have e : x.cell? ⟨g, 0 + k, none⟩ = w.cell? ⟨g, 0 + k, none⟩ := World.cell?_of_block (a := ⟨g, 0 + k, none⟩) (hx g hE hlt.2 hg)
  rw [e, Nat.zero_add, World.ownsRow.cellAt hr k (by omega)]; exact hu
theorem OwQT.fix {w : World} {E B g n c : Nat} {S S' : List Nat} {xss : List (List (List Int))} (h : OwQT w E B S g n c xss) (hg : g ∉ S) (hE : E ≤ g) (hS : ∀ s, s ∈ S' → s ∈ S ∨ w.heap.size ≤ s ∨ s < E) : Rdf E S' w (fun x => RdLT x (.slice (some ⟨g, 0, none⟩) n c) xss) := by
  have hlt := h.lt
  have hlens := h.lens
  obtain ⟨hn, us, hl, hr, h1⟩ := h
  subst hn
  refine Rdf.more (S := S) (fun x hx => ⟨_, _, rfl, ⟨hlens.1, hlens.2, fun e => by cases e⟩, fun k row hk => ?_⟩) hS
  have hk' : k < xss.length := (List.getElem?_eq_some_iff.1 hk).1
  have hu : us[k]? = some us[k] := by simp [hl, hk']
  refine ⟨g, 0, us[k], rfl, ?_, h1 k _ row hu hk x fun j j1 j2 j3 => hx j j1 j2 (fun hm => j3 (List.mem_cons_of_mem _ hm))⟩
  have e : x.cell? ⟨g, 0 + k, none⟩ = w.cell? ⟨g, 0 + k, none⟩ := World.cell?_of_block (a := ⟨g, 0 + k, none⟩) (hx g hE hlt.2 hg)
  rw [e, Nat.zero_add, World.ownsRow.cellAt hr k (by omega)]; exact hu
theorem RdT.rdf {S : List Nat} {w : World} {v : Value} {xss : List (List Int)} (h : RdT w v xss) (hS : ∀ s, s ∈ S → w.heap.size ≤ s) : Rdf 0 S w (fun x => RdT x v xss) := by
  obtain ⟨us, hL⟩ := Lives.rdT h
  exact fun u hu => (hL.stay w u (fun k _ k2 => hu k (by omega) k2 (fun hm => by have := hS k hm; omega)) hL.now).rd
end Go.Proofs.YteijannfbafdpaaGreatDoor
