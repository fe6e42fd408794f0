/- Shared words of the walks: what it means that a value reads as a list of integers, and how that is kept when memory only grows. No program's number stands here but the types' numbers. -/
import Derived.Test.YtflebfmkgmhccaaRows
import Derived.WalkKit
import Derived.WalkSpells
import Derived.WalkLawsBesides
import Derived.Deep.QuietTactic
import Derived.BigQuiet
import Derived.Lib.Hide
set_option linter.unusedSimpArgs false
set_option linter.unusedVariables false
namespace Go.Proofs.Ytflebfmkgmhccaa
open Go.RowKit

/-- The function G is entered when it is called. -/
def Callable (G : Nat) : Prop := ∀ args w, Sem.run Try.prog (callFunc G args) w = .ok (.enter G args) w

theorem quietA {P : Program} {f : FuncId} {args : Array Value} {w : World} {n : Nat} {v u : Value} (hvu : v = u)
    (h : Calls P f args (w.drewN n) fun e w' => e = .returned v ∧ w.drewN n = w') : Calls P f args (w.drewN n) fun e w'' => e = .returned u ∧ ∃ m, w'' = w.drewN m :=
  hvu ▸ h.mono fun _ _ ⟨he, hm⟩ => ⟨he, n, hm.symm⟩
theorem quietB {P : Program} {f : FuncId} {args : Array Value} {w : World} {d n : Nat} {v u : Value} (hvu : v = u)
    (h : Calls P f args (w.drewN (d + n)) fun e w' => e = .returned v ∧ w.drewN (d + n) = w') : Calls P f args (w.drewN (d + n)) fun e w'' => e = .returned u ∧ ∃ m, w'' = w.drewN (d + m) :=
  hvu ▸ h.mono fun _ _ ⟨he, hm⟩ => ⟨he, n, hm.symm⟩
theorem quietC {P : Program} {f : FuncId} {args : Array Value} {w : World} {n : Nat} {v u : Value} (hvu : v = u)
    (h : Calls P f args (w.drewN n) fun e w' => e = .returned v ∧ ∃ d, w' = (w.drewN n).drewN d) : Calls P f args (w.drewN n) fun e w'' => e = .returned u ∧ ∃ m, w'' = w.drewN m :=
  hvu ▸ h.mono fun _ _ ⟨he, d, hm⟩ => ⟨he, n + d, by rw [hm, World.drewN_drewN]⟩
theorem quietD {P : Program} {f : FuncId} {args : Array Value} {w : World} {d n : Nat} {v u : Value} (hvu : v = u)
    (h : Calls P f args (w.drewN (d + n)) fun e w' => e = .returned v ∧ ∃ m, w' = (w.drewN (d + n)).drewN m) : Calls P f args (w.drewN (d + n)) fun e w'' => e = .returned u ∧ ∃ m, w'' = w.drewN (d + m) :=
  hvu ▸ h.mono fun _ _ ⟨he, m, hm⟩ => ⟨he, n + m, by rw [hm, World.drewN_drewN, Nat.add_assoc]⟩

/-- What is below the heap's size is as it was. -/
theorem bcell {W w1 : World} (hb : Below W.heap.size W w1) : (∀ b o, b < W.heap.size → w1.cell? ⟨b, o, none⟩ = W.cell? ⟨b, o, none⟩) ∧ (∀ b o, b < W.heap.size → w1.frozen? ⟨b, o, none⟩ = W.frozen? ⟨b, o, none⟩) :=
  ⟨fun b o h => hb.cell (p := ⟨b, o, none⟩) h, fun b o h => hb.frozen (p := ⟨b, o, none⟩) h⟩

theorem bcellB {B : Nat} {W w1 : World} (hb : Below B W w1) : (∀ b o, b < B → w1.cell? ⟨b, o, none⟩ = W.cell? ⟨b, o, none⟩) ∧ (∀ b o, b < B → w1.frozen? ⟨b, o, none⟩ = W.frozen? ⟨b, o, none⟩) :=
  ⟨fun b o h => hb.cell (p := ⟨b, o, none⟩) h, fun b o h => hb.frozen (p := ⟨b, o, none⟩) h⟩

/-- v reads as the list xs of integers. -/
def RdI (w : World) (v : Value) (xs : List Int) : Prop :=
  ∃ o c, v = .slice o xs.length c ∧ (xs.length ≤ maxLen ∧ xs.length ≤ c ∧ (o = none → c = 0)) ∧
    (∀ k x, xs[k]? = some x → ∃ b off, o = some ⟨b, off, none⟩ ∧ w.cell? ⟨b, off + k, none⟩ = some (.int .i64 x))

theorem cell_lt {w : World} {b off : Nat} {x : Value} (h : w.cell? ⟨b, off, none⟩ = some x) : b < w.heap.size := World.block_lt_of_cell? w ⟨b, off, none⟩ h

theorem keep_cell {B : Nat} {w w' : World} (hb : Below B w w') (hB : w.heap.size ≤ B) {b off : Nat} {x : Value} (h : w.cell? ⟨b, off, none⟩ = some x) : w'.cell? ⟨b, off, none⟩ = some x := by
  have hl := cell_lt h
  rw [hb.cell (p := ⟨b, off, none⟩) (by show b < B; omega)]; exact h

theorem RdI.below {B : Nat} {w w' : World} {v : Value} {xs : List Int} (h : RdI w v xs) (hb : Below B w w') (hB : w.heap.size ≤ B) : RdI w' v xs := by
  obtain ⟨o, c, rfl, hm, hc⟩ := h
  refine ⟨o, c, rfl, hm, fun k x hx => ?_⟩
  obtain ⟨b, off, ho, hcell⟩ := hc k x hx
  exact ⟨b, off, ho, keep_cell hb hB hcell⟩

theorem RdI.nil (w : World) : RdI w (.slice none 0 0) [] := ⟨none, 0, rfl, ⟨Nat.zero_le _, Nat.zero_le _, fun _ => rfl⟩, fun k x hx => by simp at hx⟩

/-- The call's own row of integers: it lies in a block from B on, which is not frozen. -/
def OwI (w : World) (B : Nat) (v : Value) (xs : List Int) : Prop := w.ownsRow B 2 1 v xs.length (xs.map (Value.int .i64))

theorem OwI.rd {w : World} {B : Nat} {v : Value} {xs : List Int} (h : OwI w B v xs) : RdI w v xs := by
  obtain ⟨h1, h2⟩ := h
  rcases h2 with ⟨rfl, h0⟩ | ⟨g, cap, cur, rfl, hg, hh, hn, hcm, hcs, ht⟩
  · have : xs = [] := List.eq_nil_of_length_eq_zero h0
    subst this
    exact RdI.nil w
  · refine ⟨_, _, rfl, ⟨by omega, hn, fun h => by cases h⟩, fun k x hx => ⟨g, 0, rfl, ?_⟩⟩
    have := World.ownsRow.cells (w := w) (base := B) (e := 2) (size := 1) (v := .slice (some ⟨g, 0, none⟩) xs.length cap) (n := xs.length) (xs := xs.map (Value.int .i64)) ⟨h1, .inr ⟨g, cap, cur, rfl, hg, hh, hn, hcm, hcs, ht⟩⟩ (g := g) rfl k (.int .i64 x) (by simp [hx])
    have e : (⟨g, 0, none⟩ : Addr).add k = ⟨g, 0 + k, none⟩ := by unfold Addr.add; split <;> simp_all
    rw [e] at this
    exact this

theorem OwI.shape {w : World} {B : Nat} {v : Value} {xs : List Int} (h : OwI w B v xs) : ∃ o c, v = .slice o xs.length c := by
  obtain ⟨o, c, rfl, -, -⟩ := h.rd
  exact ⟨o, c, rfl⟩

theorem OwI.mono {w : World} {B B' : Nat} {v : Value} {xs : List Int} (h : OwI w B v xs) (hB : B' ≤ B) : OwI w B' v xs := by
  obtain ⟨h1, h2⟩ := h
  refine ⟨h1, ?_⟩
  rcases h2 with h2 | ⟨g, cap, cur, hv, hg, r⟩
  · exact .inl h2
  · exact .inr ⟨g, cap, cur, hv, by omega, r⟩

theorem OwI.below {w w' : World} {B : Nat} {v : Value} {xs : List Int} (h : OwI w B v xs) (hb : Below w.heap.size w w') : OwI w' B v xs := by
  obtain ⟨h1, h2⟩ := h
  refine ⟨h1, ?_⟩
  rcases h2 with h2 | ⟨g, cap, cur, hv, hg, hh, r⟩
  · exact .inl h2
  · refine .inr ⟨g, cap, cur, hv, hg, ?_, r⟩
    have hl : g < w.heap.size := by
      rcases Nat.lt_or_ge g w.heap.size with h | h
      · exact h
      · simp [Array.getElem?_eq_none h] at hh
    rw [hb.block g hl]; exact hh


theorem info_i : (Try.prog.info? 2).map (fun i => (i.zero, i.size, i.bytes)) = some (some (.int .i64 0), 1, 8) := by kernel_rfl

/-- Two owned rows: one stays as it is while the other's block is written. -/
theorem OwI.kept {w w' : World} {B : Nat} {v : Value} {xs : List Int} {row : Option Nat} (h : OwI w B v xs) (hg : w.grownBy w' row) (hne : v.ownBlock = none ∨ v.ownBlock ≠ row) : OwI w' B v xs := World.ownsRow.kept h hg hne

theorem OwI.lt {w : World} {B : Nat} {v : Value} {xs : List Int} (h : OwI w B v xs) : ∀ k, v.ownBlock = some k → B ≤ k ∧ k < w.heap.size := World.ownsRow.lt h

theorem OwI.alloc {w : World} {B : Nat} {v : Value} {xs : List Int} (h : OwI w B v xs) (o : Obj) : OwI (w.alloc o) B v xs := World.ownsRow.alloc h o

theorem OwI.nil (w : World) (B : Nat) : OwI w B (.slice none 0 0) [] := World.ownsRow_nil _ _ _ _

theorem OwI.drewN {w : World} {B : Nat} {v : Value} {xs : List Int} (h : OwI w B v xs) (n : Nat) : OwI (w.drewN n) B v xs := h

/-- An owned row that is not empty, opened. -/
theorem OwI.opn {w : World} {B : Nat} {v : Value} {xs : List Int} (h : OwI w B v xs) (hne : 0 < xs.length) :
    ∃ g cap, v = .slice (some ⟨g, 0, none⟩) xs.length cap ∧ B ≤ g ∧ g < w.heap.size ∧ xs.length ≤ maxLen ∧
      (∀ k x, xs[k]? = some x → w.cell? ⟨g, k, none⟩ = some (.int .i64 x)) ∧ (∀ k, w.frozen? ⟨g, k, none⟩ = false) := by
  have h' := h
  obtain ⟨h1, h2⟩ := h
  rcases h2 with ⟨rfl, h0⟩ | ⟨g, cap, cur, rfl, hg, hh, hn, hcm, hcs, ht⟩
  · omega
  · refine ⟨g, cap, rfl, hg, (Array.getElem?_eq_some_iff.1 hh).1, by omega, fun k x hx => ?_, fun k => World.ownsRow.frozenAt h' k⟩
    rw [World.ownsRow.cellAt h' k (by have := (List.getElem?_eq_some_iff.1 hx).1; omega)]
    simp [hx]

theorem OwI.put {w : World} {B g n cap : Nat} {xs : List Int} (h : OwI w B (.slice (some ⟨g, 0, none⟩) n cap) xs) (k : Nat) (y : Int) :
    OwI (w.setCell ⟨g, k, none⟩ (.int .i64 y)) B (.slice (some ⟨g, 0, none⟩) n cap) (xs.set k y) := by
  have hn : n = xs.length := by
    rcases h.2 with ⟨h', _⟩ | ⟨g', cap', cur, h', _⟩
    · simp at h'
    · simpa using (Value.slice.inj h').2.1
  subst hn
  have := (World.ownsRow.stored h k (.int .i64 y)).1
  unfold OwI
  rw [List.length_set, List.map_set]
  exact this

theorem OwI.cell {w : World} {B g n cap : Nat} {xs : List Int} (h : OwI w B (.slice (some ⟨g, 0, none⟩) n cap) xs) {k : Nat} {x : Int} (hx : xs[k]? = some x) : w.cell? ⟨g, k, none⟩ = some (.int .i64 x) := by
  have hl := (List.getElem?_eq_some_iff.1 hx).1
  obtain ⟨g', cap', hv, _, _, _, hcell, _⟩ := OwI.opn h (by omega)
  have : g = g' := by simpa using (Value.slice.inj hv).1
  subst this
  exact hcell k x hx

theorem OwI.fz {w : World} {B g n cap : Nat} {xs : List Int} (h : OwI w B (.slice (some ⟨g, 0, none⟩) n cap) xs) (k : Nat) : w.frozen? ⟨g, k, none⟩ = false := by
  rcases h.2 with ⟨h', _⟩ | ⟨g', cap', cur, h', _, hg, _⟩
  · simp at h'
  · have : g = g' := by simpa using (Value.slice.inj h').1
    subst this
    exact frozen_of_row w g k cur _ hg

theorem OwI.len {w : World} {B n c : Nat} {o : Option Addr} {xs : List Int} (h : OwI w B (.slice o n c) xs) : n = xs.length := by
  rcases h.2 with ⟨h', h0⟩ | ⟨g', cap', cur, h', _⟩
  · have := (Value.slice.inj h').2.1; omega
  · simpa using (Value.slice.inj h').2.1

/-- An owned row while a block below its base is written. -/
theorem OwI.low {w : World} {B : Nat} {v : Value} {xs : List Int} (h : OwI w B v xs) {a : Addr} (ha : a.block < B) (u : Value) : OwI (w.setCell a u) B v xs := ownsRow_setCell_below h ha u

theorem below_put {B : Nat} {a w : World} (h : Below B a w) {g k : Nat} (hg : B ≤ g) (u : Value) : Below B a (w.setCell ⟨g, k, none⟩ u) := h.setCell (p := ⟨g, k, none⟩) hg u

theorem grown_put (w : World) (g k : Nat) (u : Value) : w.grownBy (w.setCell ⟨g, k, none⟩ u) (some g) :=
  ⟨rfl, rfl, rfl, by simp, fun j _ hj => heap_setCell_other w ⟨g, k, none⟩ j u (fun e => hj (by simp [e]))⟩

/-- What grew by one row of the call's own has not turned below. -/
theorem below_of_grown {w w' : World} {row : Option Nat} {B : Nat} (hg : w.grownBy w' row) (hB : B ≤ w.heap.size) (hr : ∀ k, row = some k → B ≤ k) : Below B w w' := (Below.refl B w).grown hg hB hr

/-- A block of three cells, read. -/
def Box3 (w : World) (b : Nat) (x y z : Value) : Prop := w.cell? ⟨b, 0, none⟩ = some x ∧ w.cell? ⟨b, 1, none⟩ = some y ∧ w.cell? ⟨b, 2, none⟩ = some z
theorem Box3.below {B : Nat} {w w' : World} {b : Nat} {x y z : Value} (h : Box3 w b x y z) (hb : Below B w w') (hB : w.heap.size ≤ B) : Box3 w' b x y z :=
  ⟨keep_cell hb hB h.1, keep_cell hb hB h.2.1, keep_cell hb hB h.2.2⟩
theorem Box3.lt {w : World} {b : Nat} {x y z : Value} (h : Box3 w b x y z) : b < w.heap.size := cell_lt h.1
theorem Box3.mk' (w : World) (x y z : Value) (t : TypeId) : Box3 (w.alloc (.cells #[x, y, z] t)) w.heap.size x y z := ⟨by simp, by simp, by simp⟩
/-- A block of two cells, read. -/
def Box2 (w : World) (b : Nat) (x y : Value) : Prop := w.cell? ⟨b, 0, none⟩ = some x ∧ w.cell? ⟨b, 1, none⟩ = some y
theorem Box2.below {B : Nat} {w w' : World} {b : Nat} {x y : Value} (h : Box2 w b x y) (hb : Below B w w') (hB : w.heap.size ≤ B) : Box2 w' b x y :=
  ⟨keep_cell hb hB h.1, keep_cell hb hB h.2⟩
theorem Box2.lt {w : World} {b : Nat} {x y : Value} (h : Box2 w b x y) : b < w.heap.size := cell_lt h.1
theorem Box2.mk' (w : World) (x y : Value) (t : TypeId) : Box2 (w.alloc (.cells #[x, y] t)) w.heap.size x y := ⟨by simp, by simp⟩

/-- A block that the call laid for its result: read, and open to be written. -/
def RB3 (w : World) (b : Nat) (x y z : Value) : Prop := Box3 w b x y z ∧ ∀ k, w.frozen? ⟨b, k, none⟩ = false
theorem RB3.below {B : Nat} {w w' : World} {b : Nat} {x y z : Value} (h : RB3 w b x y z) (hb : Below B w w') (hB : w.heap.size ≤ B) : RB3 w' b x y z :=
  ⟨h.1.below hb hB, fun k => (hb.frozen (p := ⟨b, k, none⟩) (Nat.lt_of_lt_of_le h.1.lt hB)).trans (h.2 k)⟩
theorem frozen_new (w : World) (cs : Array Value) (t : TypeId) (k : Nat) : (w.alloc (.cells cs t)).frozen? ⟨w.heap.size, k, none⟩ = false := frozen_of_row _ _ _ cs t (heap_alloc_new w _)
theorem RB3.mk1 (w : World) (x y z : Value) (t : TypeId) : RB3 (w.alloc (.cells #[x, y, z] t)) w.heap.size x y z := ⟨Box3.mk' w x y z t, frozen_new w _ t⟩
theorem RB3.mk2 (w : World) (o : Obj) (x y z : Value) (t : TypeId) : RB3 ((w.alloc o).alloc (.cells #[x, y, z] t)) (w.heap.size + 1) x y z := by
  have := RB3.mk1 (w.alloc o) x y z t
  simpa using this
theorem RB3.mk3 (w : World) (o o' : Obj) (x y z : Value) (t : TypeId) : RB3 (((w.alloc o).alloc o').alloc (.cells #[x, y, z] t)) (w.heap.size + 2) x y z := by
  have := RB3.mk1 ((w.alloc o).alloc o') x y z t
  simpa using this
def RB2 (w : World) (b : Nat) (x y : Value) : Prop := Box2 w b x y ∧ ∀ k, w.frozen? ⟨b, k, none⟩ = false
theorem RB2.below {B : Nat} {w w' : World} {b : Nat} {x y : Value} (h : RB2 w b x y) (hb : Below B w w') (hB : w.heap.size ≤ B) : RB2 w' b x y :=
  ⟨h.1.below hb hB, fun k => (hb.frozen (p := ⟨b, k, none⟩) (Nat.lt_of_lt_of_le h.1.lt hB)).trans (h.2 k)⟩
theorem RB2.mk1 (w : World) (x y : Value) (t : TypeId) : RB2 (w.alloc (.cells #[x, y] t)) w.heap.size x y := ⟨Box2.mk' w x y t, frozen_new w _ t⟩
theorem RB2.mk2 (w : World) (o : Obj) (x y : Value) (t : TypeId) : RB2 ((w.alloc o).alloc (.cells #[x, y] t)) (w.heap.size + 1) x y := by
  have := RB2.mk1 (w.alloc o) x y t
  simpa using this
theorem RB2.mk3 (w : World) (o o' : Obj) (x y : Value) (t : TypeId) : RB2 (((w.alloc o).alloc o').alloc (.cells #[x, y] t)) (w.heap.size + 2) x y := by
  have := RB2.mk1 ((w.alloc o).alloc o') x y t
  simpa using this

section
variable {ops : Array Oper} {rest : List Oper} {o : Oper} {a : Act} {Q : Exit → Act → World → Prop}

/-- make([]int64, n). -/
theorem mkI (w : World) (hg : o.guard = none) (l c : Operand) (hop : o.op = Op.makeSlice 26 l c) (kl kc : IntKind) (L : Int) (n : Nat)
    (hl : a.eval l = .int kl L) (hc : a.eval c = .int kc L) (hL : L = (n : Int)) (hn : n ≤ 1099511627776)
    (hK : ∀ w', OwI w' w.heap.size (.slice (some ⟨w.heap.size, 0, none⟩) n n) (List.replicate n 0) → Below w.heap.size w w' → w'.heap.size = w.heap.size + 1 → wpList Try.prog ops Q rest (a.put o.dst (.slice (some ⟨w.heap.size, 0, none⟩) n n)) w') :
    wpList Try.prog ops Q (o :: rest) a w := by
  obtain ⟨i0, hi, hz0, hz1, hz2⟩ := info_parts info_i
  subst hL
  refine wpList_plain hg fun K hK' => ?_
  have hr := run_make (P := Try.prog) w 26 2 i0 (.int .i64 0) Try.underlying26 hi hz0 kl kc n n (by omega) (Int.le_refl _) (by rw [hz2]; omega) (by omega)
  simp only [Int.toNat_natCast, hz1, Nat.mul_one] at hr
  unfold Oper.wp
  have := hK (w.alloc (.cells (madeCells (Value.int IntKind.i64 0).cells n) 2)) (by
    have h := World.ownsRow_lit (base := w.heap.size) (e := 2) (size := 1) w (madeCells (Value.int IntKind.i64 0).cells n) n (Nat.le_refl _) (by unfold maxLen; omega) (by simp [size_madeCells])
    have e : (madeCells (Value.int IntKind.i64 0).cells n).toList = (List.replicate n (0 : Int)).map (Value.int .i64) := by
      rw [show (Value.int IntKind.i64 0).cells = #[Value.int IntKind.i64 0] from rfl, toList_madeCells_one, List.map_replicate]
    rw [e] at h
    unfold OwI
    rw [List.length_replicate]
    exact h) (below_of_grown (World.grownBy_alloc w _ none) (Nat.le_refl _) (fun k h => by cases h)) (by simp)
  simp [execOp, hop, hl, hc, hr, Result.andThen]
  exact hK' _ _ this

/-- append(s, y), s the call's own: y lies in the cell that was made for it. -/
theorem apI (w : World) (hg : o.guard = none) (s x : Operand) (hop : o.op = .call { callee := .builtin .append, args := #[s, x], argTypes := #[26, 26] })
    (B : Nat) (v : Value) (xs : List Int) (hs : a.eval s = v) (hown : OwI w B v xs) (y : Int) (hx : a.eval x = .slice (some ⟨w.heap.size, 0, none⟩) 1 1)
    (hn : xs.length < 1099511627776) (hB : B ≤ w.heap.size)
    (hK : ∀ v' w', OwI w' B v' (xs ++ [y]) → (w.alloc (.cells #[.int .i64 y] 2)).grownBy w' v.ownBlock → Below B w w' → w.heap.size < w'.heap.size → wpList Try.prog ops Q rest (a.put o.dst v') w') :
    wpList Try.prog ops Q (o :: rest) a (w.alloc (.cells #[.int .i64 y] 2)) := by
  obtain ⟨i0, hi, hz0, hz1, hz2⟩ := info_parts info_i
  refine wpList_append_own _ hg s x 26 hop B 2 i0 (.int .i64 0) 1 8 Try.underlying26 hi hz0 hz1 hz2 rfl (by decide) v xs.length (xs.map (Value.int .i64)) hs (World.ownsRow.alloc hown _) ⟨w.heap.size, 0, none⟩ 1 1 [.int .i64 y] hx rfl (cell_one_new _ _ _) (ints_oneCell .i64 [y]) (by unfold maxLen; omega) (by omega) (by simp; omega) ?_
  intro v' w' hown' hgrow _
  refine hK v' w' (by unfold OwI; rw [List.length_append, List.map_append]; exact hown') hgrow ?_ (by have := hgrow.size; simp at this; omega)
  refine Below.grown (((Below.refl B w)).alloc hB _) hgrow (by simp; omega) ?_
  intro k hk
  exact (OwI.lt hown k hk).1
/-- append(s, t...), s the call's own, t any slice that reads as ys (not nil). -/
theorem wpAppR {K : Act → World → Prop} (w : World) (s x : Operand) (hop : o.op = .call { callee := .builtin .append, args := #[s, x], argTypes := #[26, 26] })
    (B : Nat) (v : Value) (xs : List Int) (hs : a.eval s = v) (hown : OwI w B v xs) (ad : Addr) (m c : Nat) (ys : List Int) (hx : a.eval x = .slice (some ad) m c) (hr : RdI w (.slice (some ad) m c) ys)
    (hn : xs.length + ys.length < 1099511627776) (hB : B ≤ w.heap.size)
    (hK : ∀ o1 c1 w', OwI w' B (.slice o1 (xs ++ ys).length c1) (xs ++ ys) → w.grownBy w' v.ownBlock → Below B w w' → K (a.put o.dst (.slice o1 (xs ++ ys).length c1)) w') :
    Oper.wp Try.prog o a w K Q := by
  obtain ⟨i0, hi, hz0, hz1, hz2⟩ := info_parts info_i
  obtain ⟨o', c', heq, hm, hc⟩ := hr
  obtain ⟨rfl, rfl, rfl⟩ : some ad = o' ∧ m = ys.length ∧ c = c' := by simpa using heq
  refine wp_append_own w s x 26 hop B 2 i0 (.int .i64 0) 1 8 Try.underlying26 hi hz0 hz1 hz2 rfl (by decide) v xs.length (xs.map (Value.int .i64)) hs hown ad ys.length c (ys.map (Value.int .i64)) hx (by simp) ?_ (ints_oneCell .i64 ys) (by unfold maxLen; omega) (by omega) hB ?_
  · intro j u hu
    simp only [List.getElem?_map, Option.map_eq_some_iff] at hu
    obtain ⟨y, hy, rfl⟩ := hu
    obtain ⟨b, off, hb, hcell⟩ := hc j y hy
    obtain rfl := Option.some.inj hb
    rw [Addr.add_lit]; exact hcell
  · intro v' w' hown' hgrow _
    have how : OwI w' B v' (xs ++ ys) := by unfold OwI; rw [List.length_append, List.map_append]; exact hown'
    obtain ⟨o1, c1, rfl⟩ := how.shape
    refine hK o1 c1 w' how hgrow ?_
    exact Below.grown (Below.refl B w) hgrow hB (fun k hk => (OwI.lt hown k hk).1)

theorem apR (w : World) (hg : o.guard = none) (s x : Operand) (hop : o.op = .call { callee := .builtin .append, args := #[s, x], argTypes := #[26, 26] })
    (B : Nat) (v : Value) (xs : List Int) (hs : a.eval s = v) (hown : OwI w B v xs) (ad : Addr) (m c : Nat) (ys : List Int) (hx : a.eval x = .slice (some ad) m c) (hr : RdI w (.slice (some ad) m c) ys)
    (hn : xs.length + ys.length < 1099511627776) (hB : B ≤ w.heap.size)
    (hK : ∀ o1 c1 w', OwI w' B (.slice o1 (xs ++ ys).length c1) (xs ++ ys) → w.grownBy w' v.ownBlock → Below B w w' → wpList Try.prog ops Q rest (a.put o.dst (.slice o1 (xs ++ ys).length c1)) w') :
    wpList Try.prog ops Q (o :: rest) a w :=
  wpList_plain hg fun _ hK' => wpAppR w s x hop B v xs hs hown ad m c ys hx hr hn hB fun o1 c1 w' h1 h2 h3 => hK' _ _ (hK o1 c1 w' h1 h2 h3)

theorem stR {K : Act → World → Prop} {E : Prop} (w : World) (hg : o.guard = none) (s x : Operand) (hop : o.op = .call { callee := .builtin .append, args := #[s, x], argTypes := #[26, 26] })
    (B : Nat) (v : Value) (xs : List Int) (hs : a.eval s = v) (hown : OwI w B v xs) (ad : Addr) (m c : Nat) (ys : List Int) (hx : a.eval x = .slice (some ad) m c) (hr : RdI w (.slice (some ad) m c) ys)
    (hn : xs.length + ys.length < 1099511627776) (hB : B ≤ w.heap.size)
    (hK : ∀ o1 c1 w', OwI w' B (.slice o1 (xs ++ ys).length c1) (xs ++ ys) → w.grownBy w' v.ownBlock → Below B w w' → K (a.put o.dst (.slice o1 (xs ++ ys).length c1)) w') :
    if Region.wanted o (yielded ops a.tmps) = true then Oper.wp Try.prog o a w K Q else E := by
  have hw : Region.wanted o (yielded ops a.tmps) = true := by simp [Region.wanted, hg]
  rw [if_pos hw]
  exact wpAppR w s x hop B v xs hs hown ad m c ys hx hr hn hB hK
end

/-- A row that was just written out. -/
theorem OwI.lit (w : World) (ys : List Int) (h : ys.length ≤ maxLen) : OwI (w.alloc (.cells (ys.map (Value.int .i64)).toArray 2)) w.heap.size (.slice (some ⟨w.heap.size, 0, none⟩) ys.length ys.length) ys := by
  have := World.ownsRow_lit (base := w.heap.size) (e := 2) (size := 1) w (ys.map (Value.int .i64)).toArray ys.length (Nat.le_refl _) h (by simp)
  simpa [OwI] using this

theorem rep_get (n k : Nat) (x : Int) (h : k < n) : (List.replicate n x)[k]? = some x := by simp [List.getElem?_replicate, h]

/-- A beginning of a list, read. -/
theorem RdI.take {w : World} {ad : Addr} {n c : Nat} {xs : List Int} (h : RdI w (.slice (some ad) n c) xs) (k : Nat) (hk : k ≤ xs.length) : RdI w (.slice (some ad) k c) (xs.take k) := by
  obtain ⟨o', c', heq, hm, hc⟩ := h
  obtain ⟨rfl, rfl, rfl⟩ : some ad = o' ∧ n = xs.length ∧ c = c' := by simpa using heq
  have hl : (xs.take k).length = k := by simp; omega
  refine ⟨some ad, c, by rw [hl], ⟨by omega, by omega, fun h => by cases h⟩, fun j x hx => ?_⟩
  rw [List.getElem?_take] at hx
  split at hx
  · exact hc j x hx
  · cases hx

end Go.Proofs.Ytflebfmkgmhccaa
