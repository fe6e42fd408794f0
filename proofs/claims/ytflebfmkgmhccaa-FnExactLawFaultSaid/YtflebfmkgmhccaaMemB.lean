/- More words of memory: a list's cells, opened; tables. -/
import Derived.Test.YtflebfmkgmhccaaLive
set_option linter.unusedSimpArgs false
set_option linter.unusedVariables false
namespace Go.Proofs.Ytflebfmkgmhccaa
open Go.RowKit

/-- The cells of a list that is not empty. -/
theorem RdI.cells {w : World} {o : Option Addr} {n c : Nat} {xs : List Int} (h : RdI w (.slice o n c) xs) (hx : 1 ≤ xs.length) :
    ∃ b off, o = some ⟨b, off, none⟩ ∧ ∀ k x, xs[k]? = some x → w.cell? ⟨b, off + k, none⟩ = some (.int .i64 x) := by
  obtain ⟨o', c', heq, hm, hc⟩ := h
  obtain ⟨rfl, rfl, rfl⟩ : o = o' ∧ n = xs.length ∧ c = c' := by simpa using heq
  obtain ⟨b, off, ho, hcell⟩ := hc 0 (xs[0]) (by simp)
  refine ⟨b, off, ho, fun k x hk => ?_⟩
  obtain ⟨b', off', ho', hcell'⟩ := hc k x hk
  rw [ho] at ho'
  obtain ⟨rfl, rfl⟩ : b = b' ∧ off = off' := by simpa using ho'
  exact hcell'
theorem RdI.cell0 {w : World} {b off n c : Nat} {xs : List Int} (h : RdI w (.slice (some ⟨b, off, none⟩) n c) xs) {k : Nat} {x : Int} (hx : xs[k]? = some x) : w.cell? ⟨b, off + k, none⟩ = some (.int .i64 x) := by
  obtain ⟨b', off', ho, hc⟩ := h.cells (by have := (List.getElem?_eq_some_iff.1 hx).1; omega)
  obtain ⟨rfl, rfl⟩ : b = b' ∧ off = off' := by simpa using ho
  exact hc k x hx
theorem RdI.len {w : World} {o : Option Addr} {n c : Nat} {xs : List Int} (h : RdI w (.slice o n c) xs) : n = xs.length ∧ xs.length ≤ maxLen ∧ xs.length ≤ c := by
  obtain ⟨o', c', heq, hm, hc⟩ := h
  obtain ⟨rfl, rfl, rfl⟩ : o = o' ∧ n = xs.length ∧ c = c' := by simpa using heq
  exact ⟨rfl, hm.1, hm.2.1⟩

theorem RB2.put {w : World} {b : Nat} {x' y' : Value} (h : RB2 w b x' y') (x y : Value) : RB2 ((w.setCell ⟨b, 0, none⟩ x).setCell ⟨b, 1, none⟩ y) b x y := by
  obtain ⟨⟨h0, h1⟩, hf⟩ := h
  refine ⟨⟨?_, ?_⟩, fun k => ?_⟩
  · rw [World.cell?_setCell_other _ _ _ _ (by simp)]; exact World.cell?_setCell_same _ _ _ h0
  · exact World.cell?_setCell_same _ _ _ ((World.cell?_setCell_other w ⟨b, 0, none⟩ ⟨b, 1, none⟩ x (by simp)).trans h1)
  · rw [World.frozen?_setCell, World.frozen?_setCell]; exact hf k
theorem RB3.put {w : World} {b : Nat} {x' y' z' : Value} (h : RB3 w b x' y' z') (x y z : Value) : RB3 (((w.setCell ⟨b, 0, none⟩ x).setCell ⟨b, 1, none⟩ y).setCell ⟨b, 2, none⟩ z) b x y z := by
  obtain ⟨⟨h0, h1, h2⟩, hf⟩ := h
  have e1 : (w.setCell ⟨b, 0, none⟩ x).cell? ⟨b, 1, none⟩ = some y' := (World.cell?_setCell_other w ⟨b, 0, none⟩ ⟨b, 1, none⟩ x (by simp)).trans h1
  have e2 : (w.setCell ⟨b, 0, none⟩ x).cell? ⟨b, 2, none⟩ = some z' := (World.cell?_setCell_other w ⟨b, 0, none⟩ ⟨b, 2, none⟩ x (by simp)).trans h2
  have e3 : ((w.setCell ⟨b, 0, none⟩ x).setCell ⟨b, 1, none⟩ y).cell? ⟨b, 2, none⟩ = some z' := (World.cell?_setCell_other _ ⟨b, 1, none⟩ ⟨b, 2, none⟩ y (by simp)).trans e2
  refine ⟨⟨?_, ?_, ?_⟩, fun k => ?_⟩
  · rw [World.cell?_setCell_other _ _ _ _ (by simp), World.cell?_setCell_other _ _ _ _ (by simp)]; exact World.cell?_setCell_same _ _ _ h0
  · rw [World.cell?_setCell_other _ _ _ _ (by simp)]; exact World.cell?_setCell_same _ _ _ e1
  · exact World.cell?_setCell_same _ _ _ e3
  · rw [World.frozen?_setCell, World.frozen?_setCell, World.frozen?_setCell]; exact hf k

/-- What was written to one block alone: the others' facts stay. -/
theorem gr_drewN {a w : World} {r : Option Nat} (h : a.grownBy w r) (n : Nat) : a.grownBy (w.drewN n) r := ⟨h.os, h.tape, h.output, h.size, h.block⟩
theorem gr_drew {a w : World} {r : Option Nat} (h : a.grownBy w r) : a.grownBy w.drew r := ⟨h.os, h.tape, h.output, h.size, h.block⟩
theorem gr_put {a w : World} {g : Nat} (h : a.grownBy w (some g)) (k : Nat) (u : Value) : a.grownBy (w.setCell ⟨g, k, none⟩ u) (some g) := h.trans (grown_put w g k u)
theorem gr_below {a w w' : World} {r : Option Nat} (h : a.grownBy w r) (hb : Below w.heap.size w w') : a.grownBy w' r :=
  h.trans ⟨hb.os, hb.tape, hb.output, hb.size, fun k hk _ => hb.block k hk⟩
theorem below_gr {B g : Nat} {a b c : World} (h : Below B a b) (hg : b.grownBy c (some g)) (hB : B ≤ g) (hB' : B ≤ b.heap.size) : Below B a c :=
  h.grown hg hB' (fun k hk => by cases hk; exact hB)
theorem Box2.grown {w w' : World} {b : Nat} {r : Option Nat} {x y : Value} (h : Box2 w b x y) (hg : w.grownBy w' r) (hne : some b ≠ r) : Box2 w' b x y :=
  ⟨hg.cell h.1 hne, hg.cell h.2 hne⟩
theorem Box3.grown {w w' : World} {b : Nat} {r : Option Nat} {x y z : Value} (h : Box3 w b x y z) (hg : w.grownBy w' r) (hne : some b ≠ r) : Box3 w' b x y z :=
  ⟨hg.cell h.1 hne, hg.cell h.2.1 hne, hg.cell h.2.2 hne⟩
theorem RB2.grown {w w' : World} {b : Nat} {r : Option Nat} {x y : Value} (h : RB2 w b x y) (hg : w.grownBy w' r) (hne : some b ≠ r) : RB2 w' b x y :=
  ⟨h.1.grown hg hne, fun k => (World.frozen?_of_block (a := ⟨b, k, none⟩) (hg.block b h.1.lt hne)).trans (h.2 k)⟩
theorem RB3.grown {w w' : World} {b : Nat} {r : Option Nat} {x y z : Value} (h : RB3 w b x y z) (hg : w.grownBy w' r) (hne : some b ≠ r) : RB3 w' b x y z :=
  ⟨h.1.grown hg hne, fun k => (World.frozen?_of_block (a := ⟨b, k, none⟩) (hg.block b h.1.lt hne)).trans (h.2 k)⟩
/-- A store into another block. -/
theorem Box2.put' {w : World} {b : Nat} {x y : Value} (h : Box2 w b x y) {a : Addr} (ha : a.block ≠ b) (u : Value) : Box2 (w.setCell a u) b x y :=
  ⟨(World.cell?_setCell_other w a ⟨b, 0, none⟩ u (fun e => ha (by first | simp [e] | simp [← e]))).trans h.1,
   (World.cell?_setCell_other w a ⟨b, 1, none⟩ u (fun e => ha (by first | simp [e] | simp [← e]))).trans h.2⟩
theorem RB2.put' {w : World} {b : Nat} {x y : Value} (h : RB2 w b x y) {a : Addr} (ha : a.block ≠ b) (u : Value) : RB2 (w.setCell a u) b x y :=
  ⟨h.1.put' ha u, fun k => by rw [World.frozen?_setCell]; exact h.2 k⟩
theorem OwI.shapeN {w : World} {B n : Nat} {v : Value} {xs : List Int} (h : OwI w B v xs) (hl : xs.length = n) : ∃ o c, v = .slice o n c := by
  obtain ⟨o, c, rfl⟩ := h.shape; exact ⟨o, c, by rw [hl]⟩
/-- append(s, y) at a step of a region that draws: y lies in the cell that was made for it. -/
theorem stI {ops : Array Oper} {o : Oper} {a : Act} {Q : Exit → Act → World → Prop} {K : Act → World → Prop} {E : Prop} (w : World) (hg : o.guard = none) (s x : Operand) (hop : o.op = .call { callee := .builtin .append, args := #[s, x], argTypes := #[26, 26] })
    (B : Nat) (v : Value) (xs : List Int) (hs : a.eval s = v) (hown : OwI w B v xs) (y : Int) (hx : a.eval x = .slice (some ⟨w.heap.size, 0, none⟩) 1 1)
    (hn : xs.length < 1099511627776) (hB : B ≤ w.heap.size)
    (hK : ∀ v' w', OwI w' B v' (xs ++ [y]) → Below B w w' → K (a.put o.dst v') w') :
    if Region.wanted o (yielded ops a.tmps) = true then Oper.wp Try.prog o a (w.alloc (.cells #[.int .i64 y] 2)).drew K Q else E := by
  have hw : Region.wanted o (yielded ops a.tmps) = true := by simp [Region.wanted, hg]
  rw [if_pos hw]
  obtain ⟨i0, hi, hz0, hz1, hz2⟩ := info_parts info_i
  have hown' : OwI (w.alloc (.cells #[.int .i64 y] 2)).drew B v xs := World.ownsRow.alloc hown _
  refine wp_append_own _ s x 26 hop B 2 i0 (.int .i64 0) 1 8 Try.underlying26 hi hz0 hz1 hz2 rfl (by decide) v xs.length (xs.map (Value.int .i64)) hs hown' ⟨w.heap.size, 0, none⟩ 1 1 [.int .i64 y] hx rfl (cell_one_new _ _ _) (ints_oneCell .i64 [y]) (by unfold maxLen; omega) (by omega) (by simp; omega) ?_
  intro v' w' hown2 hgrow _
  refine hK v' w' (by unfold OwI; rw [List.length_append, List.map_append]; exact hown2) ?_
  refine Below.grown (((Below.refl B w).alloc hB _).drew) hgrow (by simp; omega) ?_
  intro k hk
  exact (OwI.lt hown k hk).1
/-- The block of an owned row that is not empty. -/
theorem OwI.row {w : World} {B n c : Nat} {o : Option Addr} {xs : List Int} (h : OwI w B (.slice o n c) xs) (hn : 1 ≤ n) : ∃ g, o = some ⟨g, 0, none⟩ ∧ B ≤ g ∧ g < w.heap.size := by
  have e := h.len
  obtain ⟨g, cap, hv, h1, h2, -, -, -⟩ := h.opn (by omega)
  exact ⟨g, (Value.slice.inj hv).1, h1, h2⟩
theorem stillC {P : Program} {f : FuncId} {args : Array Value} {w : World} {v : Value} (h : Calls P f args w fun e w' => e = .returned v ∧ w = w') : Calls P f args w fun e w' => e = .returned v ∧ w' = w := h.mono fun _ _ ⟨h1, h2⟩ => ⟨h1, h2.symm⟩
end Go.Proofs.Ytflebfmkgmhccaa
