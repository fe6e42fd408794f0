/- Words of memory for tables: slices of slices of integers. -/
import Derived.Test.YtflebfmkgmhccaaMemB
set_option linter.unusedSimpArgs false
set_option linter.unusedVariables false
namespace Go.Proofs.Ytflebfmkgmhccaa
open Go.RowKit

/-- v reads as the table xss. -/
def RdT (w : World) (v : Value) (xss : List (List Int)) : Prop :=
  ∃ o c, v = .slice o xss.length c ∧ (xss.length ≤ maxLen ∧ xss.length ≤ c ∧ (o = none → c = 0)) ∧
    (∀ k row, xss[k]? = some row → ∃ b off u, o = some ⟨b, off, none⟩ ∧ w.cell? ⟨b, off + k, none⟩ = some u ∧ RdI w u row)

theorem RdT.below {B : Nat} {w w' : World} {v : Value} {xss : List (List Int)} (h : RdT w v xss) (hb : Below B w w') (hB : w.heap.size ≤ B) : RdT w' v xss := by
  obtain ⟨o, c, rfl, hm, hc⟩ := h
  refine ⟨o, c, rfl, hm, fun k x hx => ?_⟩
  obtain ⟨b, off, u, ho, hcell, hr⟩ := hc k x hx
  exact ⟨b, off, u, ho, keep_cell hb hB hcell, hr.below hb hB⟩
theorem RdT.len {w : World} {o : Option Addr} {n c : Nat} {xss : List (List Int)} (h : RdT w (.slice o n c) xss) : n = xss.length ∧ xss.length ≤ maxLen ∧ xss.length ≤ c := by
  obtain ⟨o', c', heq, hm, hc⟩ := h
  obtain ⟨rfl, rfl, rfl⟩ : o = o' ∧ n = xss.length ∧ c = c' := by simpa using heq
  exact ⟨rfl, hm.1, hm.2.1⟩
/-- A table that is not empty: its rows. -/
theorem RdT.rows {w : World} {o : Option Addr} {n c : Nat} {xss : List (List Int)} (h : RdT w (.slice o n c) xss) (hx : 1 ≤ xss.length) :
    ∃ b off, o = some ⟨b, off, none⟩ ∧ ∀ k row, xss[k]? = some row → ∃ u, w.cell? ⟨b, off + k, none⟩ = some u ∧ RdI w u row := by
  obtain ⟨o', c', heq, hm, hc⟩ := h
  obtain ⟨rfl, rfl, rfl⟩ : o = o' ∧ n = xss.length ∧ c = c' := by simpa using heq
  obtain ⟨b, off, -, ho, -, -⟩ := hc 0 (xss[0]) (by simp)
  refine ⟨b, off, ho, fun k x hk => ?_⟩
  obtain ⟨b', off', u, ho', hcell', hr⟩ := hc k x hk
  rw [ho] at ho'
  obtain ⟨rfl, rfl⟩ : b = b' ∧ off = off' := by simpa using ho'
  exact ⟨u, hcell', hr⟩
theorem RdT.row {w : World} {b off n c : Nat} {xss : List (List Int)} (h : RdT w (.slice (some ⟨b, off, none⟩) n c) xss) {k : Nat} {row : List Int} (hx : xss[k]? = some row) :
    ∃ o c, w.cell? ⟨b, off + k, none⟩ = some (.slice o row.length c) ∧ RdI w (.slice o row.length c) row := by
  obtain ⟨b', off', ho, hc⟩ := h.rows (by have := (List.getElem?_eq_some_iff.1 hx).1; omega)
  obtain ⟨rfl, rfl⟩ : b = b' ∧ off = off' := by simpa using ho
  obtain ⟨u, h1, h2⟩ := hc k row hx
  obtain ⟨o, c, rfl, -, -⟩ := id h2
  exact ⟨o, c, h1, h2⟩

/-- The call's own table: it and its rows lie in blocks from B on, each in one of its own. -/
def OwS (w : World) (B : Nat) (v : Value) (xss : List (List Int)) : Prop :=
  ∃ us : List Value, us.length = xss.length ∧ w.ownsRow B 26 1 v xss.length us ∧
    (∀ (k : Nat) (u : Value) (row : List Int), us[k]? = some u → xss[k]? = some row → OwI w B u row) ∧
    (∀ (i j : Nat) (u u' : Value) (b : Nat), us[i]? = some u → us[j]? = some u' → u.ownBlock = some b → u'.ownBlock = some b → i = j) ∧
    (∀ (i : Nat) (u : Value) (b : Nat), us[i]? = some u → u.ownBlock = some b → v.ownBlock = some b → False)

theorem OwS.shape {w : World} {B : Nat} {v : Value} {xss : List (List Int)} (h : OwS w B v xss) : ∃ o c, v = .slice o xss.length c := by
  obtain ⟨us, hl, ⟨_, hr⟩, -⟩ := h
  rcases hr with ⟨rfl, h0⟩ | ⟨g, cap, cur, rfl, -⟩
  · exact ⟨none, 0, by rw [h0]⟩
  · exact ⟨_, _, rfl⟩
theorem OwS.shapeN {w : World} {B n : Nat} {v : Value} {xss : List (List Int)} (h : OwS w B v xss) (hl : xss.length = n) : ∃ o c, v = .slice o n c := by
  obtain ⟨o, c, rfl⟩ := h.shape; exact ⟨o, c, by rw [hl]⟩
theorem OwS.nil (w : World) (B : Nat) : OwS w B (.slice none 0 0) [] := ⟨[], rfl, World.ownsRow_nil _ _ _ _, by simp, by simp, by simp⟩
theorem OwS.mono {w : World} {B B' : Nat} {v : Value} {xss : List (List Int)} (h : OwS w B v xss) (hB : B' ≤ B) : OwS w B' v xss := by
  obtain ⟨us, hl, hr, h1, h2, h3⟩ := h
  refine ⟨us, hl, ⟨hr.1, ?_⟩, fun k u row hu hx => (h1 k u row hu hx).mono hB, h2, h3⟩
  rcases hr.2 with h | ⟨g, cap, cur, hv, hg, r⟩
  · exact .inl h
  · exact .inr ⟨g, cap, cur, hv, by omega, r⟩
theorem OwS.kept {w w' : World} {B : Nat} {v : Value} {xss : List (List Int)} {row : Option Nat} (h : OwS w B v xss) (hg : w.grownBy w' row) (hne : ∀ b, row = some b → b < B ∨ w.heap.size ≤ b) : OwS w' B v xss := by
  obtain ⟨us, hl, hr, h1, h2, h3⟩ := h
  have hk : ∀ u : Value, (∀ k, u.ownBlock = some k → B ≤ k ∧ k < w.heap.size) → u.ownBlock = none ∨ u.ownBlock ≠ row := by
    intro u hu
    cases e : u.ownBlock with
    | none => exact .inl rfl
    | some k =>
      refine .inr fun e' => ?_
      have := hu k e
      have := hne k e'.symm
      omega
  refine ⟨us, hl, hr.kept hg (hk v hr.lt), fun k u row hu hx => (h1 k u row hu hx).kept hg (hk u (h1 k u row hu hx).lt), h2, h3⟩
theorem OwS.below {w w' : World} {B : Nat} {v : Value} {xss : List (List Int)} (h : OwS w B v xss) (hb : Below w.heap.size w w') : OwS w' B v xss :=
  h.kept (row := none) ⟨hb.os, hb.tape, hb.output, hb.size, fun k hk _ => hb.block k hk⟩ (fun b hb => by cases hb)
theorem OwS.alloc {w : World} {B : Nat} {v : Value} {xss : List (List Int)} (h : OwS w B v xss) (o : Obj) : OwS (w.alloc o) B v xss := h.kept (World.grownBy_alloc w o none) (fun b hb => by cases hb)
/-- While a block below its base is written. -/
theorem OwS.low {w : World} {B : Nat} {v : Value} {xss : List (List Int)} (h : OwS w B v xss) {g k : Nat} (ha : g < B) (u : Value) : OwS (w.setCell ⟨g, k, none⟩ u) B v xss :=
  h.kept (grown_put w g k u) (fun b hb => .inl (by cases hb; exact ha))

theorem OwS.rd {w : World} {B : Nat} {v : Value} {xss : List (List Int)} (h : OwS w B v xss) : RdT w v xss := by
  obtain ⟨us, hl, hr, h1, -, -⟩ := h
  rcases id hr.2 with ⟨rfl, h0⟩ | ⟨g, cap, cur, rfl, hg, hh, hn, hcm, hcs, ht⟩
  · have : xss = [] := List.eq_nil_of_length_eq_zero h0
    subst this
    exact ⟨none, 0, rfl, ⟨Nat.zero_le _, Nat.zero_le _, fun _ => rfl⟩, fun k row hx => by simp at hx⟩
  · refine ⟨_, _, rfl, ⟨by omega, hn, fun h => by cases h⟩, fun k row hx => ?_⟩
    have hk : k < xss.length := (List.getElem?_eq_some_iff.1 hx).1
    have hu : us[k]? = some us[k] := by simp [hl, hk]
    refine ⟨g, 0, us[k], rfl, ?_, (h1 k _ row hu hx).rd⟩
    rw [Nat.zero_add, World.ownsRow.cellAt hr k (by omega)]; exact hu

/-- The block of a table that is not empty. -/
theorem OwS.row {w : World} {B n c : Nat} {o : Option Addr} {xss : List (List Int)} (h : OwS w B (.slice o n c) xss) (hn : 1 ≤ n) : ∃ g, o = some ⟨g, 0, none⟩ ∧ B ≤ g ∧ g < w.heap.size := by
  obtain ⟨us, hl, hr, -⟩ := h
  rcases id hr.2 with ⟨h', h0⟩ | ⟨g, cap, cur, hv, hg, hh, -⟩
  · have := (Value.slice.inj h').2.1; omega
  · exact ⟨g, (Value.slice.inj hv).1, hg, (Array.getElem?_eq_some_iff.1 hh).1⟩
theorem OwS.len {w : World} {B n c : Nat} {o : Option Addr} {xss : List (List Int)} (h : OwS w B (.slice o n c) xss) : n = xss.length := by
  obtain ⟨o', c', he⟩ := h.shape; exact (Value.slice.inj he).2.1

/-- One row of the table: its value, its block. -/
theorem OwS.get {w : World} {B g n c : Nat} {xss : List (List Int)} (h : OwS w B (.slice (some ⟨g, 0, none⟩) n c) xss) {k : Nat} {row : List Int} (hx : xss[k]? = some row) :
    ∃ o c', w.cell? ⟨g, k, none⟩ = some (.slice o row.length c') ∧ OwI w B (.slice o row.length c') row ∧ (Value.slice o row.length c').ownBlock ≠ some g := by
  have hn := h.len
  obtain ⟨us, hl, hr, h1, -, h3⟩ := h
  subst hn
  have hk : k < xss.length := (List.getElem?_eq_some_iff.1 hx).1
  have hu : us[k]? = some us[k] := by simp [hl, hk]
  have how := h1 k _ row hu hx
  obtain ⟨o, c', he⟩ := how.shape
  rw [he] at how hu
  refine ⟨o, c', ?_, how, fun e => h3 k _ g hu e rfl⟩
  rw [World.ownsRow.cellAt hr k (by omega)]; exact hu
theorem OwS.fz {w : World} {B g n c : Nat} {xss : List (List Int)} (h : OwS w B (.slice (some ⟨g, 0, none⟩) n c) xss) (k : Nat) : w.frozen? ⟨g, k, none⟩ = false := by
  have hn := h.len
  obtain ⟨us, hl, hr, -⟩ := h
  subst hn
  exact World.ownsRow.frozenAt hr k

/-- A row is put into the table: it is the call's own, and in no block of the table's. -/
theorem OwS.put {w : World} {B g n c : Nat} {xss : List (List Int)} (h : OwS w B (.slice (some ⟨g, 0, none⟩) n c) xss) (k : Nat) {u : Value} {row : List Int} (hu : OwI w B u row)
    (hg : u.ownBlock ≠ some g) (hd : ∀ (j : Nat) (u' : Value) (r : List Int) (b : Nat), w.cell? ⟨g, j, none⟩ = some u' → xss[j]? = some r → j ≠ k → u.ownBlock = some b → u'.ownBlock ≠ some b) :
    OwS (w.setCell ⟨g, k, none⟩ u) B (.slice (some ⟨g, 0, none⟩) n c) (xss.set k row) := by
  have hn := h.len
  obtain ⟨us, hl, hr, h1, h2, h3⟩ := h
  subst hn
  have hgr := grown_put w g k u
  have hkeep : ∀ (u' : Value) r, OwI w B u' r → u'.ownBlock ≠ some g → OwI (w.setCell ⟨g, k, none⟩ u) B u' r := fun u' r ho hne => ho.kept hgr (.inr hne)
  have hne : ∀ (i : Nat) (u' : Value), us[i]? = some u' → u'.ownBlock ≠ some g := fun i u' hi e => h3 i u' g hi e rfl
  have hcell : ∀ j, j < xss.length → w.cell? ⟨g, j, none⟩ = us[j]? := fun j hj => World.ownsRow.cellAt hr j (by omega)
  refine ⟨us.set k u, by simp [hl], by rw [List.length_set]; exact (World.ownsRow.stored hr k u).1, ?_, ?_, ?_⟩
  · intro i u' r hi hxi
    rw [List.getElem?_set] at hi hxi
    by_cases e : k = i
    · subst e
      rw [if_pos rfl] at hi hxi
      split at hi
      · rename_i hlt
        rw [if_pos (by omega)] at hxi
        cases hi; cases hxi
        exact hkeep u row hu hg
      · cases hi
    · rw [if_neg e] at hi hxi
      exact hkeep u' r (h1 i u' r hi hxi) (hne i u' hi)
  · intro i j u1 u2 b hi hj hb1 hb2
    rw [List.getElem?_set] at hi hj
    by_cases e1 : k = i <;> by_cases e2 : k = j
    · omega
    · subst e1
      rw [if_pos rfl] at hi
      rw [if_neg e2] at hj
      split at hi
      · cases hi
        have hjl : j < us.length := (List.getElem?_eq_some_iff.1 hj).1
        exact absurd hb2 (hd j u2 (xss[j]'(by omega)) b (by rw [hcell j (by omega)]; exact hj) (by simp [show j < xss.length by omega]) (fun e => e2 e.symm) hb1)
      · cases hi
    · subst e2
      rw [if_pos rfl] at hj
      rw [if_neg e1] at hi
      split at hj
      · cases hj
        have hil : i < us.length := (List.getElem?_eq_some_iff.1 hi).1
        exact absurd hb1 (hd i u1 (xss[i]'(by omega)) b (by rw [hcell i (by omega)]; exact hi) (by simp [show i < xss.length by omega]) (fun e => e1 e.symm) hb2)
      · cases hj
    · rw [if_neg e1] at hi
      rw [if_neg e2] at hj
      exact h2 i j u1 u2 b hi hj hb1 hb2
  · intro i u' b hi hb hv
    rw [List.getElem?_set] at hi
    by_cases e : k = i
    · subst e
      rw [if_pos rfl] at hi
      split at hi
      · cases hi
        simp only [Value.ownBlock] at hv
        exact hg (by rw [hb]; exact hv.symm ▸ rfl)
      · cases hi
    · rw [if_neg e] at hi
      exact h3 i u' b hi hb hv

/-- A new row is put into the table. -/
theorem OwS.putNew {w : World} {B B' g n c : Nat} {xss : List (List Int)} (h : OwS w B (.slice (some ⟨g, 0, none⟩) n c) xss) (k : Nat) {u : Value} {row : List Int} (hu : OwI w B' u row) (hB : B ≤ B') (hg : g < B')
    (hd : ∀ (j : Nat) (u' : Value) (r : List Int), w.cell? ⟨g, j, none⟩ = some u' → xss[j]? = some r → ∀ b : Nat, u'.ownBlock = some b → b < B') :
    OwS (w.setCell ⟨g, k, none⟩ u) B (.slice (some ⟨g, 0, none⟩) n c) (xss.set k row) := by
  refine h.put k (hu.mono hB) (fun e => by have := (hu.lt g e).1; omega) (fun j u' r b hc hx _ hb hb' => ?_)
  have := (hu.lt b hb).1
  have := hd j u' r hc hx b hb'
  omega
end Go.Proofs.Ytflebfmkgmhccaa
