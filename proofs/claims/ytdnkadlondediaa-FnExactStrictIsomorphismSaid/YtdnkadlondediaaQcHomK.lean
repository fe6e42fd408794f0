/- Lemmas of HomK. -/
import Derived.Test.YtdnkadlondediaaQcHomJ
set_option linter.unusedSimpArgs false
set_option linter.unusedVariables false
namespace Go.Proofs.Ytdnkadlondediaa
open Go.RowKit

structure InvH (m : Int) (b g : Nat) (w : World) (tv sv : Value) (s : List (List Int)) (o : Option Nat) (u : World) : Prop where
  bel : ∀ k, k < w.heap.size → u.heap[k]? = w.heap[k]?
  F : Box2 u b (.int .i64 m) tv
  G : Box2 u (b + 1) (.int .i64 m) sv
  one : Cel1 u (b + 2) 0 (.bool false)
  fin : Cel1 u (b + 3) 0 (.func (.func 103) #[] #[])
  out : ∃ vs, o = vs.ownBlock ∧ Cel1 u (b + 5) 0 vs ∧ (∀ k, u.frozen? ⟨b + 5, k, none⟩ = false) ∧ OwZ u (b + 4) (fun x => x = b + 5 ∨ x = g) vs m s ∧ (∀ j, vs.ownBlock = some j → j ≠ b + 5 ∧ j ≠ g)
theorem Cel1.lt {w : World} {b f : Nat} {x : Value} (h : Cel1 w b f x) : b < w.heap.size := cell_lt h.get
theorem Cel1.blk {w w' : World} {b f : Nat} {x : Value} (h : Cel1 w b f x) (hb : w'.heap[b]? = w.heap[b]?) : Cel1 w' b f x := ⟨(World.cell?_of_block hb).trans h.get⟩
theorem Box2.blk {w w' : World} {b : Nat} {x y : Value} (h : Box2 w b x y) (hb : w'.heap[b]? = w.heap[b]?) : Box2 w' b x y := ⟨(World.cell?_of_block hb).trans h.1, (World.cell?_of_block hb).trans h.2⟩
theorem InvH.stay {m : Int} {b g : Nat} {w : World} {tv sv : Value} {s : List (List Int)} {o : Option Nat} {u u' : World} (h : InvH m b g w tv sv s o u) (hw : w.heap.size = b) (hg : b + 6 ≤ g) (hs : u.heap.size ≤ u'.heap.size) (hk : ∀ k, k < u.heap.size → k ≠ g → u'.heap[k]? = u.heap[k]?) : InvH m b g w tv sv s o u' := by
  obtain ⟨h1, h2, h3, h4, h5, vs, h6, h7, h8, h9, h10⟩ := h
  have l7 := h7.lt
  have l2 := h2.lt
  refine ⟨fun k k1 => (hk k (by omega) (by omega)).trans (h1 k k1), h2.blk (hk _ h2.lt (by omega)), h3.blk (hk _ h3.lt (by omega)), h4.blk (hk _ h4.lt (by omega)), h5.blk (hk _ h5.lt (by omega)), vs, h6, h7.blk (hk _ l7 (by omega)), fun k => (World.frozen?_of_block (hk (b + 5) l7 (by omega))).trans (h8 k), ?_, h10⟩
  obtain ⟨us, hl, hr, hrow⟩ := h9
  have hlt : ∀ j, vs.ownBlock = some j → j < u.heap.size := fun j hj => (hr.lt j hj).2
  refine ⟨us, hl, ⟨hr.1, ?_⟩, fun k x row hu hx => ?_⟩
  · rcases hr.2 with h | ⟨g', cap, cur, hv, hg', hh, r⟩
    · exact .inl h
    · have hj : vs.ownBlock = some g' := by rw [hv]; rfl
      exact .inr ⟨g', cap, cur, hv, hg', by rw [hk g' (hlt g' hj) (h10 g' hj).2]; exact hh, r⟩
  · obtain ⟨lo, hi, h0, hX, hR, hO⟩ := hrow k x row hu hx
    exact ⟨lo, hi, h0, hX, ⟨Nat.le_trans hR.1 hs, fun y hy => hR.2 y (fun j j1 j2 => (hy j j1 j2).trans (hk j (Nat.lt_of_lt_of_le j2 hR.1) (fun e => by have := hX j (.inr e); omega)))⟩, hO⟩
theorem InvH.own {m : Int} {b g : Nat} {w : World} {tv sv : Value} {s : List (List Int)} {o : Option Nat} {u : World} (h : InvH m b g w tv sv s o u) : ∀ j, o = some j → j < u.heap.size ∧ j ≠ g ∧ b + 4 ≤ j := by
  intro j hj
  obtain ⟨vs, h6, h7, h8, h9, h10⟩ := h.out
  have h9' := h9.S.lt j (by rw [← h6]; exact hj)
  exact ⟨h9'.2, (h10 j (by rw [← h6]; exact hj)).2, h9'.1⟩
theorem InvH.rd {m : Int} {b g : Nat} {w : World} {tv sv : Value} {s : List (List Int)} {o : Option Nat} {u : World} (h : InvH m b g w tv sv s o u) {v : Value} {t : List (List Int)} (hv : RdT w v t) : RdT u v t := (RdT.rds hv).2 u (fun k _ hk => h.bel k hk)

end Go.Proofs.Ytdnkadlondediaa
