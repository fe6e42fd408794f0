/- What lives in a part of the heap, and how it lives on: words for the laws' walks. -/
import Derived.Test.YtflebfmkgmhccaaMem
set_option linter.unusedSimpArgs false
set_option linter.unusedVariables false
namespace Go.Proofs.Ytflebfmkgmhccaa
open Go.RowKit

/-- From lo on and below hi alone may have been written; new blocks may have come. -/
structure Chg (lo hi : Nat) (w w' : World) : Prop where
  os : w'.os = w.os
  tape : w'.tape = w.tape
  output : w'.output = w.output
  size : w.heap.size ≤ w'.heap.size
  block : ∀ k, k < w.heap.size → (k < lo ∨ hi ≤ k) → w'.heap[k]? = w.heap[k]?

theorem Chg.refl (lo hi : Nat) (w : World) : Chg lo hi w w := ⟨rfl, rfl, rfl, Nat.le_refl _, fun _ _ _ => rfl⟩
theorem Chg.trans {lo hi : Nat} {a b c : World} (h : Chg lo hi a b) (k : Chg lo hi b c) : Chg lo hi a c :=
  ⟨k.os.trans h.os, k.tape.trans h.tape, k.output.trans h.output, Nat.le_trans h.size k.size, fun i hi' hx => (k.block i (Nat.lt_of_lt_of_le hi' h.size) hx).trans (h.block i hi' hx)⟩
theorem Chg.mono {lo hi lo' hi' : Nat} {a b : World} (h : Chg lo hi a b) (h1 : lo' ≤ lo) (h2 : hi ≤ hi') : Chg lo' hi' a b :=
  ⟨h.os, h.tape, h.output, h.size, fun k hk hx => h.block k hk (by omega)⟩
theorem Chg.of_below {lo hi : Nat} {a b : World} (h : Below a.heap.size a b) : Chg lo hi a b := ⟨h.os, h.tape, h.output, h.size, fun k hk _ => h.block k hk⟩
theorem Chg.of_grown {lo hi : Nat} {a b : World} {row : Option Nat} (h : a.grownBy b row) (hr : ∀ k, row = some k → lo ≤ k ∧ k < hi) : Chg lo hi a b :=
  ⟨h.os, h.tape, h.output, h.size, fun k hk hx => h.block k hk (fun e => by have := hr k e.symm; omega)⟩
theorem Chg.below {lo hi B : Nat} {a w w' : World} (h : Below B a w) (k : Chg lo hi w w') (hB : B ≤ lo) (hB' : B ≤ w.heap.size) : Below B a w' :=
  h.trans ⟨k.os, k.tape, k.output, k.size, fun i hi' => k.block i (by omega) (.inl (by omega))⟩

/-- F holds in w and speaks of the blocks from lo on and below hi alone. -/
structure Lives (lo hi : Nat) (w : World) (F : World → Prop) : Prop where
  now : F w
  le : hi ≤ w.heap.size
  stay : ∀ u u' : World, (∀ k, lo ≤ k → k < hi → u'.heap[k]? = u.heap[k]?) → F u → F u'

theorem Lives.below {lo hi : Nat} {w w' : World} {F : World → Prop} (h : Lives lo hi w F) (hb : Below w.heap.size w w') : Lives lo hi w' F :=
  ⟨h.stay w w' (fun k _ hk => hb.block k (Nat.lt_of_lt_of_le hk h.le)) h.now, Nat.le_trans h.le hb.size, h.stay⟩
theorem Lives.chg {lo hi a b : Nat} {w w' : World} {F : World → Prop} (h : Lives lo hi w F) (hc : Chg a b w w') (hd : hi ≤ a ∨ b ≤ lo) : Lives lo hi w' F :=
  ⟨h.stay w w' (fun k h1 h2 => hc.block k (Nat.lt_of_lt_of_le h2 h.le) (by omega)) h.now, Nat.le_trans h.le hc.size, h.stay⟩

theorem Lives.box3 (w : World) (x y z : Value) (t : TypeId) : Lives w.heap.size (w.heap.size + 1) (w.alloc (.cells #[x, y, z] t)) (fun u => Box3 u w.heap.size x y z) := by
  refine ⟨Box3.mk' w x y z t, by simp, fun u u' hk h => ?_⟩
  have e := hk w.heap.size (Nat.le_refl _) (Nat.lt_succ_self _)
  exact ⟨(World.cell?_of_block (w := u) (a := ⟨w.heap.size, 0, none⟩) e).trans h.1, (World.cell?_of_block (w := u) (a := ⟨w.heap.size, 1, none⟩) e).trans h.2.1, (World.cell?_of_block (w := u) (a := ⟨w.heap.size, 2, none⟩) e).trans h.2.2⟩
theorem Lives.box2 (w : World) (x y : Value) (t : TypeId) : Lives w.heap.size (w.heap.size + 1) (w.alloc (.cells #[x, y] t)) (fun u => Box2 u w.heap.size x y) := by
  refine ⟨Box2.mk' w x y t, by simp, fun u u' hk h => ?_⟩
  have e := hk w.heap.size (Nat.le_refl _) (Nat.lt_succ_self _)
  exact ⟨(World.cell?_of_block (w := u) (a := ⟨w.heap.size, 0, none⟩) e).trans h.1, (World.cell?_of_block (w := u) (a := ⟨w.heap.size, 1, none⟩) e).trans h.2⟩

/-- A block that is known to hold its cells lives by itself. -/
theorem Lives.ofBox3 {w : World} {b : Nat} {x y z : Value} (h : Box3 w b x y z) : Lives b (b + 1) w (fun u => Box3 u b x y z) := by
  refine ⟨h, h.lt, fun u u' hk h => ?_⟩
  have e := hk b (Nat.le_refl _) (Nat.lt_succ_self _)
  exact ⟨(World.cell?_of_block (w := u) (a := ⟨b, 0, none⟩) e).trans h.1, (World.cell?_of_block (w := u) (a := ⟨b, 1, none⟩) e).trans h.2.1, (World.cell?_of_block (w := u) (a := ⟨b, 2, none⟩) e).trans h.2.2⟩
theorem Lives.ofBox2 {w : World} {b : Nat} {x y : Value} (h : Box2 w b x y) : Lives b (b + 1) w (fun u => Box2 u b x y) := by
  refine ⟨h, h.lt, fun u u' hk h => ?_⟩
  have e := hk b (Nat.le_refl _) (Nat.lt_succ_self _)
  exact ⟨(World.cell?_of_block (w := u) (a := ⟨b, 0, none⟩) e).trans h.1, (World.cell?_of_block (w := u) (a := ⟨b, 1, none⟩) e).trans h.2⟩

/-- What came in lives below the heap's size. -/
theorem Lives.rdI {w : World} {v : Value} {xs : List Int} (h : RdI w v xs) : Lives 0 w.heap.size w (fun u => RdI u v xs) := by
  refine ⟨h, Nat.le_refl _, ?_⟩
  obtain ⟨o, c, rfl, hm, hc⟩ := h
  rintro u u' hk ⟨o', c', heq, hm', hc'⟩
  refine ⟨o', c', heq, hm', fun k x hx => ?_⟩
  obtain ⟨b, off, hb, hcell⟩ := hc' k x hx
  obtain ⟨b1, off1, hb1, hcell1⟩ := hc k x hx
  have ho : o = o' := by simpa using (Value.slice.inj heq).1
  have hbb : b = b1 := by
    subst ho; rw [hb1] at hb
    simpa using (congrArg (fun t : Option Addr => (t.getD default).block) hb).symm
  subst hbb
  exact ⟨b, off, hb, (World.cell?_of_block (w := u) (a := ⟨b, off + k, none⟩) (hk b (Nat.zero_le _) (cell_lt hcell1))).trans hcell⟩

/-- A row of the call's own lives where it was made. -/
theorem Lives.owI {w : World} {B : Nat} {v : Value} {xs : List Int} (h : OwI w B v xs) (hB : B ≤ w.heap.size) : Lives B w.heap.size w (fun u => OwI u B v xs) := by
  refine ⟨h, Nat.le_refl _, ?_⟩
  have hl := h.lt
  rintro u u' hk ⟨h1, h2⟩
  refine ⟨h1, ?_⟩
  rcases h2 with h2 | ⟨g, cap, cur, hv, hg, hh, r⟩
  · exact .inl h2
  · have hlt := hl g (by rw [hv]; rfl)
    exact .inr ⟨g, cap, cur, hv, hg, by rw [hk g hg hlt.2]; exact hh, r⟩

/-- An owned row, with the end of the part of the heap in which it lives. -/
def OwR (lo hi : Nat) (w : World) (v : Value) (xs : List Int) : Prop := OwI w lo v xs ∧ ∀ k, v.ownBlock = some k → k < hi

theorem Lives.owR {w w' : World} {v : Value} {xs : List Int} (h : OwI w' w.heap.size v xs) (hB : w.heap.size ≤ w'.heap.size) : Lives w.heap.size w'.heap.size w' (fun u => OwR w.heap.size w'.heap.size u v xs) :=
  ⟨⟨h, fun k hk => (h.lt k hk).2⟩, Nat.le_refl _, fun u u' hk hx => ⟨(Lives.owI h hB).stay u u' hk hx.1, hx.2⟩⟩

/-- Where an owned row lives, a mark on it changes nothing else. -/
theorem chg_of_row {w w' : World} {lo hi : Nat} {v : Value} {xs : List Int} (h : Lives lo hi w (fun u => OwR lo hi u v xs)) (hx : ∀ k, v.ownBlock = some k → k < hi) (hg : w.grownBy w' v.ownBlock) : Chg lo hi w w' :=
  Chg.of_grown hg (fun k hk => ⟨(OwI.lt h.now.1 k hk).1, hx k hk⟩)

theorem Lives.marked {w w' : World} {lo hi : Nat} {v : Value} {xs ys : List Int} (h : Lives lo hi w (fun u => OwR lo hi u v xs)) (ho : OwI w' lo v ys) (hc : Chg lo hi w w') : Lives lo hi w' (fun u => OwR lo hi u v ys) := by
  refine ⟨⟨ho, h.now.2⟩, Nat.le_trans h.le hc.size, ?_⟩
  have hh := h.now.2
  rintro u u' hk ⟨⟨h1, h2⟩, h3⟩
  refine ⟨⟨h1, ?_⟩, h3⟩
  rcases h2 with h2 | ⟨g, cap, cur, hv, hg, hx, r⟩
  · exact .inl h2
  · exact .inr ⟨g, cap, cur, hv, hg, by rw [hk g hg (hh g (by rw [hv]; rfl))]; exact hx, r⟩

end Go.Proofs.Ytflebfmkgmhccaa
