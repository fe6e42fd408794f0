/- Lemmas. -/
import Derived.Test.YteijannfbafdpaaGreatDoorRows
import Derived.WalkKit
import Derived.WalkSpells
import Derived.WalkLawsBesides
import Derived.Deep.QuietTactic
import Derived.BigQuiet
import Derived.Lib.Hide
import Derived.Deep.AppendLies
/- Shared words of the walks: what it means that a value reads as a list of integers, and how that is kept when memory only grows. No program's number stands here but the types' numbers. -/
set_option linter.unusedSimpArgs false
set_option linter.unusedVariables false
namespace Go.Proofs.YteijannfbafdpaaGreatDoor
open Go.RowKit
theorem bS {B : Nat} {a w : World} (h : Below B a w) {p : Addr} (u : Value) (hp : B ≤ p.block := by first | (simp; done) | (simp; omega) | omega) : Below B a (w.setCell p u) := h.setCell hp u
theorem bA {B : Nat} {a w : World} (h : Below B a w) (o : Obj) (hB : B ≤ w.heap.size := by first | (simp; done) | (simp; omega) | omega) : Below B a (w.alloc o) := h.alloc hB o
theorem bT {B B' : Nat} {a b c : World} (h : Below B a b) (k : Below B' b c) (hs : B ≤ B' := by first | (simp; done) | (simp; omega) | omega) : Below B a c := h.trans (k.mono hs)
theorem bR (B : Nat) (w : World) : Below B w w := Below.refl B w
theorem bN {B : Nat} {a w : World} (h : Below B a w) (n : Nat) : Below B a (w.drewN n) := below_drewN h n
theorem bD {B : Nat} {a w : World} (h : Below B a w) : Below B a w.drew := h.drew

def Callable (G : Nat) : Prop := ∀ args w, Sem.run Tryz.prog (callFunc G args) w = .ok (.enter G args) w

theorem quietA {P : Program} {f : FuncId} {args : Array Value} {w : World} {n : Nat} {v u : Value} (hvu : v = u)
    (h : Calls P f args (w.drewN n) fun e w' => e = .returned v ∧ w.drewN n = w') : Calls P f args (w.drewN n) fun e w'' => e = .returned u ∧ ∃ m, w'' = w.drewN m :=
  hvu ▸ h.mono fun _ _ ⟨he, hm⟩ => ⟨he, n, hm.symm⟩
theorem quietB {P : Program} {f : FuncId} {args : Array Value} {w : World} {d n : Nat} {v u : Value} (hvu : v = u)
    (h : Calls P f args (w.drewN (d + n)) fun e w' => e = .returned v ∧ w.drewN (d + n) = w') : Calls P f args (w.drewN (d + n)) fun e w'' => e = .returned u ∧ ∃ m, w'' = w.drewN (d + m) :=
  hvu ▸ h.mono fun _ _ ⟨he, hm⟩ => ⟨he, n, hm.symm⟩
theorem quietC {P : Program} {f : FuncId} {args : Array Value} {w : World} {n : Nat} {v u : Value} (hvu : v = u)
    (h : Calls P f args (w.drewN n) fun e w' => e = .returned v ∧ ∃ d, w' = (w.drewN n).drewN d) : Calls P f args (w.drewN n) fun e w'' => e = .returned u ∧ ∃ m, w'' = w.drewN m :=
  hvu ▸ h.mono fun _ _ ⟨he, d, hm⟩ => ⟨he, n + d, by rw [hm, World.drewN_drewN]⟩
theorem quietD {P : Program} {f : FuncId} {args : Array Value} {w : World} {d n : Nat} {v u : Value} (hvu : v = u)
    (h : Calls P f args (w.drewN (d + n)) fun e w' => e = .returned v ∧ ∃ m, w' = (w.drewN (d + n)).drewN m) : Calls P f args (w.drewN (d + n)) fun e w'' => e = .returned u ∧ ∃ m, w'' = w.drewN (d + m) :=
  hvu ▸ h.mono fun _ _ ⟨he, m, hm⟩ => ⟨he, n + m, by rw [hm, World.drewN_drewN, Nat.add_assoc]⟩

theorem bcell {W w1 : World} (hb : Below W.heap.size W w1) : (∀ b o, b < W.heap.size → w1.cell? ⟨b, o, none⟩ = W.cell? ⟨b, o, none⟩) ∧ (∀ b o, b < W.heap.size → w1.frozen? ⟨b, o, none⟩ = W.frozen? ⟨b, o, none⟩) :=
  ⟨fun b o h => hb.cell (p := ⟨b, o, none⟩) h, fun b o h => hb.frozen (p := ⟨b, o, none⟩) h⟩

def RdI (w : World) (v : Value) (xs : List Int) : Prop :=
  ∃ o c, v = .slice o xs.length c ∧ (xs.length ≤ maxLen ∧ xs.length ≤ c ∧ (o = none → c = 0)) ∧
    (∀ k x, xs[k]? = some x → ∃ b off, o = some ⟨b, off, none⟩ ∧ w.cell? ⟨b, off + k, none⟩ = some (.int .i64 x))

theorem cell_lt {w : World} {b off : Nat} {x : Value} (h : w.cell? ⟨b, off, none⟩ = some x) : b < w.heap.size := World.block_lt_of_cell? w ⟨b, off, none⟩ h

theorem keep_cell {B : Nat} {w w' : World} (hb : Below B w w') (hB : w.heap.size ≤ B) {b off : Nat} {x : Value} (h : w.cell? ⟨b, off, none⟩ = some x) : w'.cell? ⟨b, off, none⟩ = some x := by
  have hl := cell_lt h
  rw [hb.cell (p := ⟨b, off, none⟩) (by show b < B; omega)]; exact h

theorem RdI.below {B : Nat} {w w' : World} {v : Value} {xs : List Int} (h : RdI w v xs) (hb : Below B w w') (hB : w.heap.size ≤ B) : RdI w' v xs := by
  obtain ⟨o, c, rfl, hm, hc⟩ := h
  refine ⟨o, c, rfl, hm, fun k x hx => ?_⟩
  obtain ⟨b, off, ho, hcell⟩ := hc k x hx
  exact ⟨b, off, ho, keep_cell hb hB hcell⟩

theorem RdI.nil (w : World) : RdI w (.slice none 0 0) [] := ⟨none, 0, rfl, ⟨Nat.zero_le _, Nat.zero_le _, fun _ => rfl⟩, fun k x hx => by simp at hx⟩

def OwI (w : World) (B : Nat) (v : Value) (xs : List Int) : Prop := w.ownsRow B 2 1 v xs.length (xs.map (Value.int .i64))

theorem OwI.rd {w : World} {B : Nat} {v : Value} {xs : List Int} (h : OwI w B v xs) : RdI w v xs := by
  obtain ⟨h1, h2⟩ := h
  rcases h2 with ⟨rfl, h0⟩ | ⟨g, cap, cur, rfl, hg, hh, hn, hcm, hcs, ht⟩
  · have : xs = [] := List.eq_nil_of_length_eq_zero h0
    subst this
    exact RdI.nil w
  · refine ⟨_, _, rfl, ⟨by omega, hn, fun h => by cases h⟩, fun k x hx => ⟨g, 0, rfl, ?_⟩⟩
    have := World.ownsRow.cells (w := w) (base := B) (e := 2) (size := 1) (v := .slice (some ⟨g, 0, none⟩) xs.length cap) (n := xs.length) (xs := xs.map (Value.int .i64)) ⟨h1, .inr ⟨g, cap, cur, rfl, hg, hh, hn, hcm, hcs, ht⟩⟩ (g := g) rfl k (.int .i64 x) (by simp [hx])
    have e : (⟨g, 0, none⟩ : Addr).add k = ⟨g, 0 + k, none⟩ := by unfold Addr.add; split <;> simp_all
    rw [e] at this
    exact this

theorem OwI.shape {w : World} {B : Nat} {v : Value} {xs : List Int} (h : OwI w B v xs) : ∃ o c, v = .slice o xs.length c := by
  obtain ⟨o, c, rfl, -, -⟩ := h.rd
  exact ⟨o, c, rfl⟩

theorem OwI.mono {w : World} {B B' : Nat} {v : Value} {xs : List Int} (h : OwI w B v xs) (hB : B' ≤ B) : OwI w B' v xs := by
  obtain ⟨h1, h2⟩ := h
  refine ⟨h1, ?_⟩
  rcases h2 with h2 | ⟨g, cap, cur, hv, hg, r⟩
  · exact .inl h2
  · exact .inr ⟨g, cap, cur, hv, by omega, r⟩

theorem OwI.below {w w' : World} {B : Nat} {v : Value} {xs : List Int} (h : OwI w B v xs) (hb : Below w.heap.size w w') : OwI w' B v xs := by
  obtain ⟨h1, h2⟩ := h
  refine ⟨h1, ?_⟩
  rcases h2 with h2 | ⟨g, cap, cur, hv, hg, hh, r⟩
  · exact .inl h2
  · refine .inr ⟨g, cap, cur, hv, hg, ?_, r⟩
    have hl : g < w.heap.size := by
      rcases Nat.lt_or_ge g w.heap.size with h | h
      · exact h
      · simp [Array.getElem?_eq_none h] at hh
    rw [hb.block g hl]; exact hh

theorem info_i : (Tryz.prog.info? 2).map (fun i => (i.zero, i.size, i.bytes)) = some (some (.int .i64 0), 1, 8) := by kernel_rfl

theorem OwI.kept {w w' : World} {B : Nat} {v : Value} {xs : List Int} {row : Option Nat} (h : OwI w B v xs) (hg : w.grownBy w' row) (hne : v.ownBlock = none ∨ v.ownBlock ≠ row) : OwI w' B v xs := World.ownsRow.kept h hg hne

theorem OwI.lt {w : World} {B : Nat} {v : Value} {xs : List Int} (h : OwI w B v xs) : ∀ k, v.ownBlock = some k → B ≤ k ∧ k < w.heap.size := World.ownsRow.lt h

theorem OwI.alloc {w : World} {B : Nat} {v : Value} {xs : List Int} (h : OwI w B v xs) (o : Obj) : OwI (w.alloc o) B v xs := World.ownsRow.alloc h o

theorem OwI.nil (w : World) (B : Nat) : OwI w B (.slice none 0 0) [] := World.ownsRow_nil _ _ _ _

theorem OwI.drewN {w : World} {B : Nat} {v : Value} {xs : List Int} (h : OwI w B v xs) (n : Nat) : OwI (w.drewN n) B v xs := h

theorem OwI.opn {w : World} {B : Nat} {v : Value} {xs : List Int} (h : OwI w B v xs) (hne : 0 < xs.length) :
    ∃ g cap, v = .slice (some ⟨g, 0, none⟩) xs.length cap ∧ B ≤ g ∧ g < w.heap.size ∧ xs.length ≤ maxLen ∧
      (∀ k x, xs[k]? = some x → w.cell? ⟨g, k, none⟩ = some (.int .i64 x)) ∧ (∀ k, w.frozen? ⟨g, k, none⟩ = false) := by
  have h' := h
  obtain ⟨h1, h2⟩ := h
  rcases h2 with ⟨rfl, h0⟩ | ⟨g, cap, cur, rfl, hg, hh, hn, hcm, hcs, ht⟩
  · omega
  · refine ⟨g, cap, rfl, hg, (Array.getElem?_eq_some_iff.1 hh).1, by omega, fun k x hx => ?_, fun k => World.ownsRow.frozenAt h' k⟩
    rw [World.ownsRow.cellAt h' k (by have := (List.getElem?_eq_some_iff.1 hx).1; omega)]
    simp [hx]

theorem OwI.put {w : World} {B g n cap : Nat} {xs : List Int} (h : OwI w B (.slice (some ⟨g, 0, none⟩) n cap) xs) (k : Nat) (y : Int) :
    OwI (w.setCell ⟨g, k, none⟩ (.int .i64 y)) B (.slice (some ⟨g, 0, none⟩) n cap) (xs.set k y) := by
  have hn : n = xs.length := by
    rcases h.2 with ⟨h', _⟩ | ⟨g', cap', cur, h', _⟩
    · simp at h'
    · simpa using (Value.slice.inj h').2.1
  subst hn
  have := (World.ownsRow.stored h k (.int .i64 y)).1
  unfold OwI
  rw [List.length_set, List.map_set]
  exact this

theorem OwI.cell {w : World} {B g n cap : Nat} {xs : List Int} (h : OwI w B (.slice (some ⟨g, 0, none⟩) n cap) xs) {k : Nat} {x : Int} (hx : xs[k]? = some x) : w.cell? ⟨g, k, none⟩ = some (.int .i64 x) := by
  have hl := (List.getElem?_eq_some_iff.1 hx).1
  obtain ⟨g', cap', hv, _, _, _, hcell, _⟩ := OwI.opn h (by omega)
  have : g = g' := by simpa using (Value.slice.inj hv).1
  subst this
  exact hcell k x hx

theorem OwI.fz {w : World} {B g n cap : Nat} {xs : List Int} (h : OwI w B (.slice (some ⟨g, 0, none⟩) n cap) xs) (k : Nat) : w.frozen? ⟨g, k, none⟩ = false := by
  rcases h.2 with ⟨h', _⟩ | ⟨g', cap', cur, h', _, hg, _⟩
  · simp at h'
  · have : g = g' := by simpa using (Value.slice.inj h').1
    subst this
    exact frozen_of_row w g k cur _ hg

theorem OwI.len {w : World} {B n c : Nat} {o : Option Addr} {xs : List Int} (h : OwI w B (.slice o n c) xs) : n = xs.length := by
  rcases h.2 with ⟨h', h0⟩ | ⟨g', cap', cur, h', _⟩
  · have := (Value.slice.inj h').2.1; omega
  · simpa using (Value.slice.inj h').2.1

theorem OwI.low {w : World} {B : Nat} {v : Value} {xs : List Int} (h : OwI w B v xs) {a : Addr} (ha : a.block < B) (u : Value) : OwI (w.setCell a u) B v xs := ownsRow_setCell_below h ha u

theorem below_put {B : Nat} {a w : World} (h : Below B a w) {g k : Nat} (hg : B ≤ g) (u : Value) : Below B a (w.setCell ⟨g, k, none⟩ u) := h.setCell (p := ⟨g, k, none⟩) hg u

theorem grown_put (w : World) (g k : Nat) (u : Value) : w.grownBy (w.setCell ⟨g, k, none⟩ u) (some g) :=
  ⟨rfl, rfl, rfl, by simp, fun j _ hj => heap_setCell_other w ⟨g, k, none⟩ j u (fun e => hj (by simp [e]))⟩

theorem below_of_grown {w w' : World} {row : Option Nat} {B : Nat} (hg : w.grownBy w' row) (hB : B ≤ w.heap.size) (hr : ∀ k, row = some k → B ≤ k) : Below B w w' := (Below.refl B w).grown hg hB hr

def Box3 (w : World) (b : Nat) (x y z : Value) : Prop := w.cell? ⟨b, 0, none⟩ = some x ∧ w.cell? ⟨b, 1, none⟩ = some y ∧ w.cell? ⟨b, 2, none⟩ = some z
theorem Box3.below {B : Nat} {w w' : World} {b : Nat} {x y z : Value} (h : Box3 w b x y z) (hb : Below B w w') (hB : w.heap.size ≤ B) : Box3 w' b x y z :=
  ⟨keep_cell hb hB h.1, keep_cell hb hB h.2.1, keep_cell hb hB h.2.2⟩
theorem Box3.lt {w : World} {b : Nat} {x y z : Value} (h : Box3 w b x y z) : b < w.heap.size := cell_lt h.1
theorem Box3.mk' (w : World) (x y z : Value) (t : TypeId) : Box3 (w.alloc (.cells #[x, y, z] t)) w.heap.size x y z := ⟨by simp, by simp, by simp⟩
def Box2 (w : World) (b : Nat) (x y : Value) : Prop := w.cell? ⟨b, 0, none⟩ = some x ∧ w.cell? ⟨b, 1, none⟩ = some y
theorem Box2.below {B : Nat} {w w' : World} {b : Nat} {x y : Value} (h : Box2 w b x y) (hb : Below B w w') (hB : w.heap.size ≤ B) : Box2 w' b x y :=
  ⟨keep_cell hb hB h.1, keep_cell hb hB h.2⟩
theorem Box2.lt {w : World} {b : Nat} {x y : Value} (h : Box2 w b x y) : b < w.heap.size := cell_lt h.1
theorem Box2.mk' (w : World) (x y : Value) (t : TypeId) : Box2 (w.alloc (.cells #[x, y] t)) w.heap.size x y := ⟨by simp, by simp⟩

def RB3 (w : World) (b : Nat) (x y z : Value) : Prop := Box3 w b x y z ∧ ∀ k, w.frozen? ⟨b, k, none⟩ = false
theorem RB3.below {B : Nat} {w w' : World} {b : Nat} {x y z : Value} (h : RB3 w b x y z) (hb : Below B w w') (hB : w.heap.size ≤ B) : RB3 w' b x y z :=
  ⟨h.1.below hb hB, fun k => (hb.frozen (p := ⟨b, k, none⟩) (Nat.lt_of_lt_of_le h.1.lt hB)).trans (h.2 k)⟩
theorem frozen_new (w : World) (cs : Array Value) (t : TypeId) (k : Nat) : (w.alloc (.cells cs t)).frozen? ⟨w.heap.size, k, none⟩ = false := frozen_of_row _ _ _ cs t (heap_alloc_new w _)
theorem RB3.mk1 (w : World) (x y z : Value) (t : TypeId) : RB3 (w.alloc (.cells #[x, y, z] t)) w.heap.size x y z := ⟨Box3.mk' w x y z t, frozen_new w _ t⟩
theorem RB3.mk2 (w : World) (o : Obj) (x y z : Value) (t : TypeId) : RB3 ((w.alloc o).alloc (.cells #[x, y, z] t)) (w.heap.size + 1) x y z := by
  have := RB3.mk1 (w.alloc o) x y z t
  simpa using this
theorem RB3.mk3 (w : World) (o o' : Obj) (x y z : Value) (t : TypeId) : RB3 (((w.alloc o).alloc o').alloc (.cells #[x, y, z] t)) (w.heap.size + 2) x y z := by
  have := RB3.mk1 ((w.alloc o).alloc o') x y z t
  simpa using this
def RB2 (w : World) (b : Nat) (x y : Value) : Prop := Box2 w b x y ∧ ∀ k, w.frozen? ⟨b, k, none⟩ = false
theorem RB2.below {B : Nat} {w w' : World} {b : Nat} {x y : Value} (h : RB2 w b x y) (hb : Below B w w') (hB : w.heap.size ≤ B) : RB2 w' b x y :=
  ⟨h.1.below hb hB, fun k => (hb.frozen (p := ⟨b, k, none⟩) (Nat.lt_of_lt_of_le h.1.lt hB)).trans (h.2 k)⟩
theorem RB2.mk1 (w : World) (x y : Value) (t : TypeId) : RB2 (w.alloc (.cells #[x, y] t)) w.heap.size x y := ⟨Box2.mk' w x y t, frozen_new w _ t⟩
theorem RB2.mk2 (w : World) (o : Obj) (x y : Value) (t : TypeId) : RB2 ((w.alloc o).alloc (.cells #[x, y] t)) (w.heap.size + 1) x y := by
  have := RB2.mk1 (w.alloc o) x y t
  simpa using this
theorem RB2.mk3 (w : World) (o o' : Obj) (x y : Value) (t : TypeId) : RB2 (((w.alloc o).alloc o').alloc (.cells #[x, y] t)) (w.heap.size + 2) x y := by
  have := RB2.mk1 ((w.alloc o).alloc o') x y t
  simpa using this

section
variable {ops : Array Oper} {rest : List Oper} {o : Oper} {a : Act} {Q : Exit → Act → World → Prop}

theorem mkI (w : World) (hg : o.guard = none) (l c : Operand) (hop : o.op = Op.makeSlice 34 l c) (kl kc : IntKind) (L : Int) (n : Nat)
    (hl : a.eval l = .int kl L) (hc : a.eval c = .int kc L) (hL : L = (n : Int)) (hn : n ≤ 1099511627776)
    (hK : ∀ w', OwI w' w.heap.size (.slice (some ⟨w.heap.size, 0, none⟩) n n) (List.replicate n 0) → Below w.heap.size w w' → w'.heap.size = w.heap.size + 1 → wpList Tryz.prog ops Q rest (a.put o.dst (.slice (some ⟨w.heap.size, 0, none⟩) n n)) w') :
    wpList Tryz.prog ops Q (o :: rest) a w := by
  obtain ⟨i0, hi, hz0, hz1, hz2⟩ := info_parts info_i
  subst hL
  refine wpList_plain hg fun K hK' => ?_
  have hr := run_make (P := Tryz.prog) w 34 2 i0 (.int .i64 0) Tryz.underlying34 hi hz0 kl kc n n (by omega) (Int.le_refl _) (by rw [hz2]; omega) (by omega)
  simp only [Int.toNat_natCast, hz1, Nat.mul_one] at hr
  unfold Oper.wp
  have := hK (w.alloc (.cells (madeCells (Value.int IntKind.i64 0).cells n) 2)) (by
    have h := World.ownsRow_lit (base := w.heap.size) (e := 2) (size := 1) w (madeCells (Value.int IntKind.i64 0).cells n) n (Nat.le_refl _) (by unfold maxLen; omega) (by simp [size_madeCells])
    have e : (madeCells (Value.int IntKind.i64 0).cells n).toList = (List.replicate n (0 : Int)).map (Value.int .i64) := by
      rw [show (Value.int IntKind.i64 0).cells = #[Value.int IntKind.i64 0] from rfl, toList_madeCells_one, List.map_replicate]
    rw [e] at h
    unfold OwI
    rw [List.length_replicate]
    exact h) (below_of_grown (World.grownBy_alloc w _ none) (Nat.le_refl _) (fun k h => by cases h)) (by simp)
  simp [execOp, hop, hl, hc, hr, Result.andThen]
  exact hK' _ _ this

theorem apI (w : World) (hg : o.guard = none) (s x : Operand) (hop : o.op = .call { callee := .builtin .append, args := #[s, x], argTypes := #[34, 34] })
    (B : Nat) (v : Value) (xs : List Int) (hs : a.eval s = v) (hown : OwI w B v xs) (y : Int) (hx : a.eval x = .slice (some ⟨w.heap.size, 0, none⟩) 1 1)
    (hn : xs.length < 1099511627776) (hB : B ≤ w.heap.size)
    (hK : ∀ v' w', OwI w' B v' (xs ++ [y]) → (w.alloc (.cells #[.int .i64 y] 2)).grownBy w' v.ownBlock → Below B w w' → w.heap.size < w'.heap.size → wpList Tryz.prog ops Q rest (a.put o.dst v') w') :
    wpList Tryz.prog ops Q (o :: rest) a (w.alloc (.cells #[.int .i64 y] 2)) := by
  obtain ⟨i0, hi, hz0, hz1, hz2⟩ := info_parts info_i
  refine wpList_append_own _ hg s x 34 hop B 2 i0 (.int .i64 0) 1 8 Tryz.underlying34 hi hz0 hz1 hz2 rfl (by decide) v xs.length (xs.map (Value.int .i64)) hs (World.ownsRow.alloc hown _) ⟨w.heap.size, 0, none⟩ 1 1 [.int .i64 y] hx rfl (cell_one_new _ _ _) (ints_oneCell .i64 [y]) (by unfold maxLen; omega) (by omega) (by simp; omega) ?_
  intro v' w' hown' hgrow _
  refine hK v' w' (by unfold OwI; rw [List.length_append, List.map_append]; exact hown') hgrow ?_ (by have := hgrow.size; simp at this; omega)
  refine Below.grown (((Below.refl B w)).alloc hB _) hgrow (by simp; omega) ?_
  intro k hk
  exact (OwI.lt hown k hk).1
theorem wpAppR {K : Act → World → Prop} (w : World) (s x : Operand) (hop : o.op = .call { callee := .builtin .append, args := #[s, x], argTypes := #[34, 34] })
    (B : Nat) (v : Value) (xs : List Int) (hs : a.eval s = v) (hown : OwI w B v xs) (ad : Addr) (m c : Nat) (ys : List Int) (hx : a.eval x = .slice (some ad) m c) (hr : RdI w (.slice (some ad) m c) ys)
    (hn : xs.length + ys.length < 1099511627776) (hB : B ≤ w.heap.size)
    (hK : ∀ o1 c1 w', OwI w' B (.slice o1 (xs ++ ys).length c1) (xs ++ ys) → w.grownBy w' v.ownBlock → Below B w w' → K (a.put o.dst (.slice o1 (xs ++ ys).length c1)) w') :
    Oper.wp Tryz.prog o a w K Q := by
  obtain ⟨i0, hi, hz0, hz1, hz2⟩ := info_parts info_i
  obtain ⟨o', c', heq, hm, hc⟩ := hr
  obtain ⟨rfl, rfl, rfl⟩ : some ad = o' ∧ m = ys.length ∧ c = c' := by simpa using heq
  refine wp_append_own w s x 34 hop B 2 i0 (.int .i64 0) 1 8 Tryz.underlying34 hi hz0 hz1 hz2 rfl (by decide) v xs.length (xs.map (Value.int .i64)) hs hown ad ys.length c (ys.map (Value.int .i64)) hx (by simp) ?_ (ints_oneCell .i64 ys) (by unfold maxLen; omega) (by omega) hB ?_
  · intro j u hu
    simp only [List.getElem?_map, Option.map_eq_some_iff] at hu
    obtain ⟨y, hy, rfl⟩ := hu
    obtain ⟨b, off, hb, hcell⟩ := hc j y hy
    obtain rfl := Option.some.inj hb
    rw [Addr.add_lit]; exact hcell
  · intro v' w' hown' hgrow _
    have how : OwI w' B v' (xs ++ ys) := by unfold OwI; rw [List.length_append, List.map_append]; exact hown'
    obtain ⟨o1, c1, rfl⟩ := how.shape
    refine hK o1 c1 w' how hgrow ?_
    exact Below.grown (Below.refl B w) hgrow hB (fun k hk => (OwI.lt hown k hk).1)

theorem apR (w : World) (hg : o.guard = none) (s x : Operand) (hop : o.op = .call { callee := .builtin .append, args := #[s, x], argTypes := #[34, 34] })
    (B : Nat) (v : Value) (xs : List Int) (hs : a.eval s = v) (hown : OwI w B v xs) (ad : Addr) (m c : Nat) (ys : List Int) (hx : a.eval x = .slice (some ad) m c) (hr : RdI w (.slice (some ad) m c) ys)
    (hn : xs.length + ys.length < 1099511627776) (hB : B ≤ w.heap.size)
    (hK : ∀ o1 c1 w', OwI w' B (.slice o1 (xs ++ ys).length c1) (xs ++ ys) → w.grownBy w' v.ownBlock → Below B w w' → wpList Tryz.prog ops Q rest (a.put o.dst (.slice o1 (xs ++ ys).length c1)) w') :
    wpList Tryz.prog ops Q (o :: rest) a w :=
  wpList_plain hg fun _ hK' => wpAppR w s x hop B v xs hs hown ad m c ys hx hr hn hB fun o1 c1 w' h1 h2 h3 => hK' _ _ (hK o1 c1 w' h1 h2 h3)

end

theorem OwI.lit (w : World) (ys : List Int) (h : ys.length ≤ maxLen) : OwI (w.alloc (.cells (ys.map (Value.int .i64)).toArray 2)) w.heap.size (.slice (some ⟨w.heap.size, 0, none⟩) ys.length ys.length) ys := by
  have := World.ownsRow_lit (base := w.heap.size) (e := 2) (size := 1) w (ys.map (Value.int .i64)).toArray ys.length (Nat.le_refl _) h (by simp)
  simpa [OwI] using this

theorem rep_get (n k : Nat) (x : Int) (h : k < n) : (List.replicate n x)[k]? = some x := by simp [List.getElem?_replicate, h]

theorem RdI.take {w : World} {ad : Addr} {n c : Nat} {xs : List Int} (h : RdI w (.slice (some ad) n c) xs) (k : Nat) (hk : k ≤ xs.length) : RdI w (.slice (some ad) k c) (xs.take k) := by
  obtain ⟨o', c', heq, hm, hc⟩ := h
  obtain ⟨rfl, rfl, rfl⟩ : some ad = o' ∧ n = xs.length ∧ c = c' := by simpa using heq
  have hl : (xs.take k).length = k := by simp; omega
  refine ⟨some ad, c, by rw [hl], ⟨by omega, by omega, fun h => by cases h⟩, fun j x hx => ?_⟩
  rw [List.getElem?_take] at hx
  split at hx
  · exact hc j x hx
  · cases hx

end Go.Proofs.YteijannfbafdpaaGreatDoor

/- The small functions on numbers: bounds, moduli, primes, shapes. -/
set_option linter.unusedSimpArgs false
set_option linter.unusedVariables false
namespace Go.Proofs.YteijannfbafdpaaGreatDoor
open Go.RowKit

def inB (n lo hi : Int) : Bool := decide (lo ≤ n ∧ n ≤ hi)
theorem inB_t {n lo hi : Int} (h : inB n lo hi = true) : lo ≤ n ∧ n ≤ hi := by simpa [inB] using h
theorem inB_f {n lo hi : Int} (h : inB n lo hi = false) : ¬ (lo ≤ n ∧ n ≤ hi) := by simpa [inB] using h
def modB (m : Int) : Bool := inB m 2 10000
theorem modB_t {m : Int} (h : modB m = true) : 2 ≤ m ∧ m ≤ 10000 := inB_t h
set_option maxHeartbeats 400000 in
theorem l01In_c (n lo hi : Int) (w : World) :
    Calls Tryz.prog 95 #[.int .i64 n, .int .i64 lo, .int .i64 hi] w fun e w' => e = .returned (.bool (inB n lo hi)) ∧ w = w' := by
  go_enter Tryz.func95, Tryz.ntmps95
  go_wp2
  all_goals go_ret
  all_goals exact ⟨by simp [inB]; omega, rfl⟩
set_option maxHeartbeats 400000 in
theorem in_c (n lo hi : Int) (w : World) :
    Calls Tryz.prog 56 #[.int .i64 n, .int .i64 lo, .int .i64 hi] w fun e w' => e = .returned (.bool (inB n lo hi)) ∧ w = w' := by
  go_enter Tryz.func56, Tryz.ntmps56
  go_wp2
  all_goals go_ret
  all_goals exact ⟨by simp [inB]; omega, rfl⟩

set_option maxHeartbeats 400000 in
theorem isNumber_c (a m : Int) (w : World) (hm : -9223372036854775808 < m) (hm' : m ≤ 9223372036854775807) :
    Calls Tryz.prog 77 #[.int .i64 a, .int .i64 m] w fun e w' => e = .returned (.bool (inB a 0 (m - 1))) ∧ w = w' := by
  go_enter Tryz.func77, Tryz.ntmps77
  go_wp2_with (go_at_call 56; refine (in_c _ _ _ _).mono ?_; rintro e w' ⟨rfl, rfl⟩)
  go_ret
  exact ⟨rfl, rfl⟩

set_option maxHeartbeats 400000 in
theorem IsModulus_c (m : Int) (w : World) :
    Calls Tryz.prog 55 #[.int .i64 m] w fun e w' => e = .returned (.bool (modB m)) ∧ w = w' := by
  go_enter Tryz.func55, Tryz.ntmps55
  go_wp2_with (go_at_call 56; refine (in_c _ _ _ _).mono ?_; rintro e w' ⟨rfl, rfl⟩)
  go_ret
  exact ⟨rfl, rfl⟩

end Go.Proofs.YteijannfbafdpaaGreatDoor

/- all, and what it calls of package slices, for a condition that is a closure over one pointer. -/
set_option linter.unusedSimpArgs false
set_option linter.unusedVariables false
namespace Go.Proofs.YteijannfbafdpaaGreatDoor
open Go.RowKit

def findI {T : Type} (q : T → Bool) : List T → Int
  | [] => -1
  | x :: xs => if q x then 0 else if findI q xs < 0 then -1 else findI q xs + 1

theorem findI_any {T : Type} (q : T → Bool) (xs : List T) : decide (0 ≤ findI q xs) = xs.any q := by
  induction xs with
  | nil => simp [findI]
  | cons x xs ih =>
    rw [List.any_cons, ← ih]
    simp only [findI]
    by_cases hx : q x = true
    · simp [hx]
    · by_cases h2 : findI q xs < 0
      · simp [hx, h2]
      · simp [hx, h2]; omega

theorem findI_at {T : Type} (q : T → Bool) (xs : List T) (k : Nat) (hk : k < xs.length) (h0 : ∀ j (hj : j < xs.length), j < k → q xs[j] = false) (h1 : q xs[k] = true) : findI q xs = k := by
  induction xs generalizing k with
  | nil => simp at hk
  | cons x xs ih =>
    cases k with
    | zero =>
      have h1' : q x = true := h1
      unfold findI; rw [if_pos h1']; rfl
    | succ k =>
      have hx : q x = false := h0 0 (by simp) (by omega)
      have := ih k (by simpa using hk) (fun j hj hlt => h0 (j+1) (by simpa using hj) (by omega)) h1
      unfold findI
      rw [if_neg (by simp [hx]), this, if_neg (by omega)]; omega

theorem findI_none {T : Type} (q : T → Bool) (xs : List T) (h0 : ∀ j (hj : j < xs.length), q xs[j] = false) : findI q xs = -1 := by
  induction xs with
  | nil => rfl
  | cons x xs ih =>
    have hx : q x = false := h0 0 (by simp)
    have := ih (fun j hj => h0 (j+1) (by simpa using hj))
    unfold findI
    rw [if_neg (by simp [hx]), this, if_pos (by omega)]

set_option maxHeartbeats 400000 in
theorem IndexFuncI_c (K : Nat) (c : Value) (q : Int → Bool) (v : Value) (xs : List Int) (w : World) (hv : RdI w v xs) (hK : Callable K)
    (hF : ∀ x ∈ xs, Calls Tryz.prog K #[.int .i64 x, c] w fun e w' => e = .returned (.bool (q x)) ∧ w = w') :
    Calls Tryz.prog 114 #[v, .func (.func K) #[] #[c]] w fun e w' => e = .returned (.int .i64 (findI q xs)) ∧ w = w' := by
  obtain ⟨o, cp, rfl, hm, hc⟩ := hv
  unfold maxLen at hm
  unfold Callable at hK
  have HF := Lib.hid hF
  clear hF
  go_enter Tryz.func114, Tryz.ntmps114
  go_wp2
  go_loop [5, 8] (fun _ i => ∃ k : Nat, k ≤ xs.length ∧ i = .int .i64 k ∧ Hid (∀ j (hj : j < xs.length), j < k → q xs[j] = false)) (fun _ i => xs.length - (intOf i).toNat)
  case atStart => exact ⟨0, Nat.zero_le _, rfl, Lib.hid (fun j hj h => by omega)⟩
  case round =>
    obtain ⟨k, hk, rfl, HQ⟩ := hrel
    by_cases hlt : k < xs.length
    · obtain ⟨b, off, rfl, hx⟩ := hc k (xs[k]) (by simp [hlt])
      cases hq : q xs[k]
      · go_wp2_with fail
        refine (HF.out xs[k] (by simp)).mono ?_
        rw [hq]
        rintro e w' ⟨rfl, rfl⟩
        go_wp2
        exact ⟨⟨k + 1, by omega, by go_num, Lib.hid (fun j hj h => by
          rcases Nat.lt_or_ge j k with h1 | h1
          · exact HQ.out j hj h1
          · obtain rfl : j = k := by omega
            exact hq)⟩, by simp [intOf]; omega⟩
      · go_wp2_with fail
        refine (HF.out xs[k] (by simp)).mono ?_
        rw [hq]
        rintro e w' ⟨rfl, rfl⟩
        go_wp2
        go_ret
        exact ⟨by rw [findI_at q xs k hlt HQ.out hq]; rfl, rfl⟩
    · go_wp2
      go_ret
      exact ⟨by rw [findI_none q xs (fun j hj => HQ.out j hj (by omega))]; rfl, rfl⟩

set_option maxHeartbeats 400000 in
theorem ContainsFuncI_c (K : Nat) (c : Value) (q : Int → Bool) (v : Value) (xs : List Int) (w : World) (hv : RdI w v xs) (hK : Callable K)
    (hF : ∀ x ∈ xs, Calls Tryz.prog K #[.int .i64 x, c] w fun e w' => e = .returned (.bool (q x)) ∧ w = w') :
    Calls Tryz.prog 98 #[v, .func (.func K) #[] #[c]] w fun e w' => e = .returned (.bool (xs.any q)) ∧ w = w' := by
  have HF := Lib.hid hF
  clear hF
  go_enter Tryz.func98, Tryz.ntmps98
  go_wp2_with (go_at_call 114; refine (IndexFuncI_c K c q _ xs _ hv hK HF.out).mono ?_; rintro e w' ⟨rfl, rfl⟩)
  go_ret
  exact ⟨by rw [← findI_any]; rfl, rfl⟩

set_option maxHeartbeats 400000 in
theorem allI1_c (G : Nat) (c : Value) (x : Int) (b : Bool) (a : Addr) (w : World) (hG : Callable G) (ha : w.cell? a = some (.func (.func G) #[] #[c]))
    (hF : Calls Tryz.prog G #[.int .i64 x, c] w fun e w' => e = .returned (.bool b) ∧ w = w') :
    Calls Tryz.prog 99 #[.int .i64 x, .pointer (some a)] w fun e w' => e = .returned (.bool (!b)) ∧ w = w' := by
  have HF := Lib.hid hF
  clear hF
  unfold Callable at hG
  go_enter Tryz.func99, Tryz.ntmps99
  go_wp2_with fail
  refine HF.out.mono ?_
  rintro e w' ⟨rfl, rfl⟩
  go_wp2
  go_ret
  exact ⟨rfl, rfl⟩
theorem allI1_callable : Callable 99 := fun args w => Tryz.call99 args w

set_option maxHeartbeats 400000 in
theorem allI_c (G : Nat) (c : Value) (p : Int → Bool) (v : Value) (xs : List Int) (w : World) (hv : RdI w v xs) (hG : Callable G)
    (hF : ∀ x ∈ xs, ∀ w1, Below w.heap.size w w1 → Calls Tryz.prog G #[.int .i64 x, c] w1 fun e w' => e = .returned (.bool (p x)) ∧ w1 = w') :
    Calls Tryz.prog 75 #[v, .func (.func G) #[] #[c]] w fun e w' => e = .returned (.bool (xs.all p)) ∧ Below w.heap.size w w' := by
  have HF := Lib.hid hF
  clear hF
  go_enter Tryz.func75, Tryz.ntmps75
  go_wp2_with fail
  refine (ContainsFuncI_c 99 _ (fun x => !(p x)) _ xs _ (hv.below ((by (repeat (first | exact bR _ _ | (refine bS ?_ _) | (refine bA ?_ _) | (refine bN ?_ _) | (refine bD ?_))))) (Nat.le_refl _)) allI1_callable (fun x hx => allI1_c G c x (p x) _ _ hG (by simp) (HF.out x hx _ ((by (repeat (first | exact bR _ _ | (refine bS ?_ _) | (refine bA ?_ _) | (refine bN ?_ _) | (refine bD ?_)))))))).mono ?_
  rintro e w' ⟨rfl, rfl⟩
  go_wp2
  go_ret
  exact ⟨by simp [List.all_eq_not_any_not], (by (repeat (first | exact bR _ _ | (refine bS ?_ _) | (refine bA ?_ _) | (refine bN ?_ _) | (refine bD ?_))))⟩

end Go.Proofs.YteijannfbafdpaaGreatDoor

/- The laws' own helpers on lists of integers: copies, comparisons, marks. -/
set_option linter.unusedSimpArgs false
set_option linter.unusedVariables false
namespace Go.Proofs.YteijannfbafdpaaGreatDoor
open Go.RowKit

def eqLB (xs ys : List Int) : Bool := decide (xs = ys)
theorem eqLB_self (xs : List Int) : eqLB xs xs = true := by simp [eqLB]
theorem eqLB_ne {xs ys : List Int} (h : xs ≠ ys) : eqLB xs ys = false := by simp [eqLB, h]
theorem eqLB_idx {xs ys : List Int} {k : Nat} {x y : Int} (hx : xs[k]? = some x) (hy : ys[k]? = some y) (h : x ≠ y) : eqLB xs ys = false := by
  apply eqLB_ne; rintro rfl; simp_all
theorem take_eq {xs ys : List Int} {k : Nat} {x : Int} (hx : xs[k]? = some x) (hy : ys[k]? = some x) (h : xs.take k = ys.take k) : xs.take (k+1) = ys.take (k+1) := by
  rw [List.take_add_one, List.take_add_one, h, hx, hy]
theorem eqLB_take {xs ys : List Int} {k : Nat} (h : xs.length = ys.length) (hk : ¬ k < xs.length) (ht : xs.take k = ys.take k) : eqLB xs ys = true := by
  rw [List.take_of_length_le (by omega), List.take_of_length_le (by omega)] at ht
  subst ht; exact eqLB_self _

set_option maxHeartbeats 400000 in
theorem eqInt64S_c (v u : Value) (xs ys : List Int) (w : World) (hv : RdI w v xs) (hu : RdI w u ys) :
    Calls Tryz.prog 37 #[v, u] w fun e w' => e = .returned (.bool (eqLB xs ys)) ∧ ∃ n, w' = w.drewN n := by
  obtain ⟨o, c, rfl, hm, hc⟩ := hv
  obtain ⟨o', c', rfl, hm', hc'⟩ := hu
  unfold maxLen at hm hm'
  by_cases hlen : xs.length = ys.length
  · have hne : (((xs.length:Nat):Int) != ((ys.length:Nat):Int)) = false := by simp [hlen]
    have HL := Lib.hid hlen
    clear hlen
    go_enter Tryz.func37, Tryz.ntmps37
    go_wp2
    go_loopw [5] (fun i wr => ∃ k : Nat, k ≤ xs.length ∧ i = .int .i64 k ∧ Hid (xs.take k = ys.take k) ∧ ∃ n, wr = w.drewN n) (fun i _ => xs.length - (intOf i).toNat)
    case atStart => exact ⟨0, Nat.zero_le _, rfl, Lib.hid rfl, 0, rfl⟩
    case round =>
      obtain ⟨k, hk, rfl, HT, n, rfl⟩ := hrel
      by_cases hlt : k < xs.length
      · obtain ⟨b, off, rfl, hx⟩ := hc k (xs[k]) (by simp [hlt])
        obtain ⟨b', off', rfl, hy⟩ := hc' k (ys[k]'(by have := HL.out; omega)) (by simp)
        have hlt' : k < ys.length := by have := HL.out; omega
        go_wp2
        go_quiet (fail)
        go_wp2
        · have hne : xs[k] ≠ ys[k] := by have h : (xs[k] != ys[k]) = true := by assumption
                                         simpa using h
          go_ret
          exact ⟨by rw [eqLB_idx (k := k) (by simp) (by simp) hne]; rfl, n + nq, by simp⟩
        · have he : ys[k] = xs[k] := by have h : (xs[k] != ys[k]) = false := by assumption
                                        simpa using Eq.symm (by simpa using h)
          exact ⟨⟨k + 1, by omega, by go_num, Lib.hid (take_eq (x := xs[k]) (by simp) (by simp [← he]) HT.out), n + nq, rfl⟩, by simp [intOf]; omega⟩
      · go_wp2
        go_ret
        exact ⟨by rw [eqLB_take HL.out hlt HT.out]; rfl, n, rfl⟩
  · have hne : (((xs.length:Nat):Int) != ((ys.length:Nat):Int)) = true := by simp; omega
    have HL := Lib.hid hlen
    clear hlen
    go_enter Tryz.func37, Tryz.ntmps37
    go_wp2
    go_ret
    exact ⟨by rw [eqLB_ne (fun h => HL.out (by rw [h]))]; rfl, 0, rfl⟩

def szV (n : Nat) (left : Int) : Int := if left - n < 0 then -1 else left - n

theorem szV_ok {n : Nat} {left : Int} (h : 0 ≤ szV n left) (hl : left ≤ 1048576) : n ≤ 1048576 ∧ szV n left ≤ 1048576 ∧ 0 ≤ szV n left := by
  unfold szV at *; split at h <;> rename_i hx
  · omega
  · rw [if_neg hx]; omega

set_option maxHeartbeats 400000 in
theorem szInt64S_c (o : Option Addr) (n c : Nat) (left : Int) (w : World) (hn : n ≤ maxLen) (h0 : 0 ≤ left) (h1 : left ≤ 1048576) :
    Calls Tryz.prog 20 #[.slice o n c, .int .i64 left] w fun e w' => e = .returned (.int .i64 (szV n left)) ∧ w = w' := by
  unfold maxLen at hn
  go_enter Tryz.func20, Tryz.ntmps20
  go_wp2
  all_goals go_ret
  all_goals exact ⟨by unfold szV; first | (rw [if_pos (by omega)]; rfl) | (rw [if_neg (by omega)]; rfl), rfl⟩

def upto (xs : List Int) (k : Nat) : List Int := xs.take k ++ List.replicate (xs.length - k) 0
theorem upto_len (xs : List Int) (k : Nat) (hk : k ≤ xs.length) : (upto xs k).length = xs.length := by simp [upto]; omega
theorem upto_0 (xs : List Int) : upto xs 0 = List.replicate xs.length 0 := by simp [upto]
theorem upto_all (xs : List Int) : upto xs xs.length = xs := by simp [upto]
theorem upto_set (xs : List Int) (k : Nat) (hk : k < xs.length) : (upto xs k).set k xs[k] = upto xs (k+1) := by
  apply List.ext_getElem?
  intro j
  unfold upto
  simp only [List.getElem?_set, List.getElem?_append, List.length_append, List.length_take, List.length_replicate, List.getElem?_take, List.getElem?_replicate]
  rcases Nat.lt_trichotomy j k with h | h | h
  · have e1 : ¬ k = j := by omega
    have e2 : j < min k xs.length := by omega
    have e3 : j < min (k+1) xs.length := by omega
    simp [e1, e2, e3, h, show j < k + 1 by omega]
  · subst h
    have e3 : j < min (j+1) xs.length := by omega
    simp [e3, show j < min j xs.length + (xs.length - j) by omega]
  · have e1 : ¬ k = j := by omega
    have e2 : ¬ j < min k xs.length := by omega
    have e3 : ¬ j < min (k+1) xs.length := by omega
    simp only [e1, e2, e3, if_false]
    by_cases h4 : j < xs.length
    · rw [if_pos (by omega), if_pos (by omega)]
    · rw [if_neg (by omega), if_neg (by omega)]
theorem upto_get (xs : List Int) (k : Nat) (hk : k < xs.length) : (upto xs k)[k]? = some 0 := by
  unfold upto
  rw [List.getElem?_append_right (by simp; omega)]
  simp [List.getElem?_replicate]; omega

set_option maxHeartbeats 400000 in
theorem toInt64S_c (v : Value) (xs : List Int) (w : World) (hv : RdI w v xs) (hn : xs.length ≤ 1048576) :
    Calls Tryz.prog 29 #[v] w fun e w' => ∃ v', e = .returned v' ∧ OwI w' w.heap.size v' xs ∧ Below w.heap.size w w' := by
  obtain ⟨o, c, rfl, hm, hc⟩ := hv
  unfold maxLen at hm
  go_enter Tryz.func29, Tryz.ntmps29
  go_wp2_with (at_make; refine mkI _ rfl _ _ rfl _ _ _ xs.length rfl rfl rfl (by omega) ?_; intro w1 hown hb hs1)
  rw [← upto_0] at hown
  have hz : w.heap.size < w1.heap.size := by omega
  clear hs1
  go_loopw [4] (fun i wr => ∃ k : Nat, k ≤ xs.length ∧ i = .int .i64 k ∧ OwI wr w.heap.size (.slice (some ⟨w.heap.size, 0, none⟩) xs.length xs.length) (upto xs k) ∧ Below w.heap.size w wr) (fun i _ => xs.length - (intOf i).toNat)
  case atStart => exact ⟨0, Nat.zero_le _, rfl, hown, hb⟩
  case round =>
    obtain ⟨k, hk, rfl, hownr, hbr⟩ := hrel
    by_cases hlt : k < xs.length
    · obtain ⟨b, off, rfl, hx⟩ := hc k (xs[k]) (by simp [hlt])
      have hbl := cell_lt hx
      have hx1 := keep_cell hbr (Nat.le_refl _) hx
      obtain ⟨g, cap, hv, hg, hgl, _, hcell, hfr⟩ := OwI.opn hownr (by rw [upto_len _ _ hk]; omega)
      obtain ⟨rfl, _⟩ : w.heap.size = g ∧ True := by simp at hv; exact ⟨hv.1, trivial⟩
      have hc0 := hcell k 0 (upto_get xs k hlt)
      have hf0 := hfr k
      clear hcell hfr hv
      have Hn := Lib.hid hownr
      clear hownr
      go_wp2
      have h2 := OwI.put Hn.out k (xs[k])
      rw [upto_set _ _ hlt] at h2
      exact ⟨⟨k + 1, by omega, by go_num, h2, below_put hbr (Nat.le_refl _) _⟩, by simp [intOf]; omega⟩
    · obtain rfl : k = xs.length := by omega
      rw [upto_all] at hownr
      go_wp2
      go_ret
      exact ⟨_, rfl, hownr, hbr⟩

end Go.Proofs.YteijannfbafdpaaGreatDoor

/- The laws' own helpers on series. -/
set_option linter.unusedSimpArgs false
set_option linter.unusedVariables false
namespace Go.Proofs.YteijannfbafdpaaGreatDoor
open Go.RowKit

end Go.Proofs.YteijannfbafdpaaGreatDoor

/- What lives in a part of the heap, and how it lives on: words for the laws' walks. -/
set_option linter.unusedSimpArgs false
set_option linter.unusedVariables false
namespace Go.Proofs.YteijannfbafdpaaGreatDoor
open Go.RowKit

structure Chg (lo hi : Nat) (w w' : World) : Prop where
  os : w'.os = w.os
  tape : w'.tape = w.tape
  output : w'.output = w.output
  size : w.heap.size ≤ w'.heap.size
  block : ∀ k, k < w.heap.size → (k < lo ∨ hi ≤ k) → w'.heap[k]? = w.heap[k]?

theorem Chg.refl (lo hi : Nat) (w : World) : Chg lo hi w w := ⟨rfl, rfl, rfl, Nat.le_refl _, fun _ _ _ => rfl⟩
theorem Chg.trans {lo hi : Nat} {a b c : World} (h : Chg lo hi a b) (k : Chg lo hi b c) : Chg lo hi a c :=
  ⟨k.os.trans h.os, k.tape.trans h.tape, k.output.trans h.output, Nat.le_trans h.size k.size, fun i hi' hx => (k.block i (Nat.lt_of_lt_of_le hi' h.size) hx).trans (h.block i hi' hx)⟩
theorem Chg.mono {lo hi lo' hi' : Nat} {a b : World} (h : Chg lo hi a b) (h1 : lo' ≤ lo) (h2 : hi ≤ hi') : Chg lo' hi' a b :=
  ⟨h.os, h.tape, h.output, h.size, fun k hk hx => h.block k hk (by omega)⟩
theorem Chg.of_below {lo hi : Nat} {a b : World} (h : Below a.heap.size a b) : Chg lo hi a b := ⟨h.os, h.tape, h.output, h.size, fun k hk _ => h.block k hk⟩
theorem Chg.of_grown {lo hi : Nat} {a b : World} {row : Option Nat} (h : a.grownBy b row) (hr : ∀ k, row = some k → lo ≤ k ∧ k < hi) : Chg lo hi a b :=
  ⟨h.os, h.tape, h.output, h.size, fun k hk hx => h.block k hk (fun e => by have := hr k e.symm; omega)⟩
theorem Chg.below {lo hi B : Nat} {a w w' : World} (h : Below B a w) (k : Chg lo hi w w') (hB : B ≤ lo) (hB' : B ≤ w.heap.size) : Below B a w' :=
  h.trans ⟨k.os, k.tape, k.output, k.size, fun i hi' => k.block i (by omega) (.inl (by omega))⟩

structure Lives (lo hi : Nat) (w : World) (F : World → Prop) : Prop where
  now : F w
  le : hi ≤ w.heap.size
  stay : ∀ u u' : World, (∀ k, lo ≤ k → k < hi → u'.heap[k]? = u.heap[k]?) → F u → F u'

theorem Lives.below {lo hi : Nat} {w w' : World} {F : World → Prop} (h : Lives lo hi w F) (hb : Below w.heap.size w w') : Lives lo hi w' F :=
  ⟨h.stay w w' (fun k _ hk => hb.block k (Nat.lt_of_lt_of_le hk h.le)) h.now, Nat.le_trans h.le hb.size, h.stay⟩
theorem Lives.chg {lo hi a b : Nat} {w w' : World} {F : World → Prop} (h : Lives lo hi w F) (hc : Chg a b w w') (hd : hi ≤ a ∨ b ≤ lo) : Lives lo hi w' F :=
  ⟨h.stay w w' (fun k h1 h2 => hc.block k (Nat.lt_of_lt_of_le h2 h.le) (by omega)) h.now, Nat.le_trans h.le hc.size, h.stay⟩

theorem Lives.box2 (w : World) (x y : Value) (t : TypeId) : Lives w.heap.size (w.heap.size + 1) (w.alloc (.cells #[x, y] t)) (fun u => Box2 u w.heap.size x y) := by
  refine ⟨Box2.mk' w x y t, by simp, fun u u' hk h => ?_⟩
  have e := hk w.heap.size (Nat.le_refl _) (Nat.lt_succ_self _)
  exact ⟨(World.cell?_of_block (w := u) (a := ⟨w.heap.size, 0, none⟩) e).trans h.1, (World.cell?_of_block (w := u) (a := ⟨w.heap.size, 1, none⟩) e).trans h.2⟩

theorem Lives.rdI {w : World} {v : Value} {xs : List Int} (h : RdI w v xs) : Lives 0 w.heap.size w (fun u => RdI u v xs) := by
  refine ⟨h, Nat.le_refl _, ?_⟩
  obtain ⟨o, c, rfl, hm, hc⟩ := h
  rintro u u' hk ⟨o', c', heq, hm', hc'⟩
  refine ⟨o', c', heq, hm', fun k x hx => ?_⟩
  obtain ⟨b, off, hb, hcell⟩ := hc' k x hx
  obtain ⟨b1, off1, hb1, hcell1⟩ := hc k x hx
  have ho : o = o' := by simpa using (Value.slice.inj heq).1
  have hbb : b = b1 := by
    subst ho; rw [hb1] at hb
    simpa using (congrArg (fun t : Option Addr => (t.getD default).block) hb).symm
  subst hbb
  exact ⟨b, off, hb, (World.cell?_of_block (w := u) (a := ⟨b, off + k, none⟩) (hk b (Nat.zero_le _) (cell_lt hcell1))).trans hcell⟩

theorem Lives.owI {w : World} {B : Nat} {v : Value} {xs : List Int} (h : OwI w B v xs) (hB : B ≤ w.heap.size) : Lives B w.heap.size w (fun u => OwI u B v xs) := by
  refine ⟨h, Nat.le_refl _, ?_⟩
  have hl := h.lt
  rintro u u' hk ⟨h1, h2⟩
  refine ⟨h1, ?_⟩
  rcases h2 with h2 | ⟨g, cap, cur, hv, hg, hh, r⟩
  · exact .inl h2
  · have hlt := hl g (by rw [hv]; rfl)
    exact .inr ⟨g, cap, cur, hv, hg, by rw [hk g hg hlt.2]; exact hh, r⟩

end Go.Proofs.YteijannfbafdpaaGreatDoor

/- More words of memory: a list's cells, opened; tables. -/
set_option linter.unusedSimpArgs false
set_option linter.unusedVariables false
namespace Go.Proofs.YteijannfbafdpaaGreatDoor
open Go.RowKit

theorem RdI.cells {w : World} {o : Option Addr} {n c : Nat} {xs : List Int} (h : RdI w (.slice o n c) xs) (hx : 1 ≤ xs.length) :
    ∃ b off, o = some ⟨b, off, none⟩ ∧ ∀ k x, xs[k]? = some x → w.cell? ⟨b, off + k, none⟩ = some (.int .i64 x) := by
  obtain ⟨o', c', heq, hm, hc⟩ := h
  obtain ⟨rfl, rfl, rfl⟩ : o = o' ∧ n = xs.length ∧ c = c' := by simpa using heq
  obtain ⟨b, off, ho, hcell⟩ := hc 0 (xs[0]) (by simp)
  refine ⟨b, off, ho, fun k x hk => ?_⟩
  obtain ⟨b', off', ho', hcell'⟩ := hc k x hk
  rw [ho] at ho'
  obtain ⟨rfl, rfl⟩ : b = b' ∧ off = off' := by simpa using ho'
  exact hcell'
theorem RdI.cell0 {w : World} {b off n c : Nat} {xs : List Int} (h : RdI w (.slice (some ⟨b, off, none⟩) n c) xs) {k : Nat} {x : Int} (hx : xs[k]? = some x) : w.cell? ⟨b, off + k, none⟩ = some (.int .i64 x) := by
  obtain ⟨b', off', ho, hc⟩ := h.cells (by have := (List.getElem?_eq_some_iff.1 hx).1; omega)
  obtain ⟨rfl, rfl⟩ : b = b' ∧ off = off' := by simpa using ho
  exact hc k x hx
theorem RdI.len {w : World} {o : Option Addr} {n c : Nat} {xs : List Int} (h : RdI w (.slice o n c) xs) : n = xs.length ∧ xs.length ≤ maxLen ∧ xs.length ≤ c := by
  obtain ⟨o', c', heq, hm, hc⟩ := h
  obtain ⟨rfl, rfl, rfl⟩ : o = o' ∧ n = xs.length ∧ c = c' := by simpa using heq
  exact ⟨rfl, hm.1, hm.2.1⟩

theorem RB2.put {w : World} {b : Nat} {x' y' : Value} (h : RB2 w b x' y') (x y : Value) : RB2 ((w.setCell ⟨b, 0, none⟩ x).setCell ⟨b, 1, none⟩ y) b x y := by
  obtain ⟨⟨h0, h1⟩, hf⟩ := h
  refine ⟨⟨?_, ?_⟩, fun k => ?_⟩
  · rw [World.cell?_setCell_other _ _ _ _ (by simp)]; exact World.cell?_setCell_same _ _ _ h0
  · exact World.cell?_setCell_same _ _ _ ((World.cell?_setCell_other w ⟨b, 0, none⟩ ⟨b, 1, none⟩ x (by simp)).trans h1)
  · rw [World.frozen?_setCell, World.frozen?_setCell]; exact hf k
theorem RB3.put {w : World} {b : Nat} {x' y' z' : Value} (h : RB3 w b x' y' z') (x y z : Value) : RB3 (((w.setCell ⟨b, 0, none⟩ x).setCell ⟨b, 1, none⟩ y).setCell ⟨b, 2, none⟩ z) b x y z := by
  obtain ⟨⟨h0, h1, h2⟩, hf⟩ := h
  have e1 : (w.setCell ⟨b, 0, none⟩ x).cell? ⟨b, 1, none⟩ = some y' := (World.cell?_setCell_other w ⟨b, 0, none⟩ ⟨b, 1, none⟩ x (by simp)).trans h1
  have e2 : (w.setCell ⟨b, 0, none⟩ x).cell? ⟨b, 2, none⟩ = some z' := (World.cell?_setCell_other w ⟨b, 0, none⟩ ⟨b, 2, none⟩ x (by simp)).trans h2
  have e3 : ((w.setCell ⟨b, 0, none⟩ x).setCell ⟨b, 1, none⟩ y).cell? ⟨b, 2, none⟩ = some z' := (World.cell?_setCell_other _ ⟨b, 1, none⟩ ⟨b, 2, none⟩ y (by simp)).trans e2
  refine ⟨⟨?_, ?_, ?_⟩, fun k => ?_⟩
  · rw [World.cell?_setCell_other _ _ _ _ (by simp), World.cell?_setCell_other _ _ _ _ (by simp)]; exact World.cell?_setCell_same _ _ _ h0
  · rw [World.cell?_setCell_other _ _ _ _ (by simp)]; exact World.cell?_setCell_same _ _ _ e1
  · exact World.cell?_setCell_same _ _ _ e3
  · rw [World.frozen?_setCell, World.frozen?_setCell, World.frozen?_setCell]; exact hf k

theorem gr_drewN {a w : World} {r : Option Nat} (h : a.grownBy w r) (n : Nat) : a.grownBy (w.drewN n) r := ⟨h.os, h.tape, h.output, h.size, h.block⟩
theorem gr_drew {a w : World} {r : Option Nat} (h : a.grownBy w r) : a.grownBy w.drew r := ⟨h.os, h.tape, h.output, h.size, h.block⟩
theorem gr_put {a w : World} {g : Nat} (h : a.grownBy w (some g)) (k : Nat) (u : Value) : a.grownBy (w.setCell ⟨g, k, none⟩ u) (some g) := h.trans (grown_put w g k u)
theorem below_gr {B g : Nat} {a b c : World} (h : Below B a b) (hg : b.grownBy c (some g)) (hB : B ≤ g) (hB' : B ≤ b.heap.size) : Below B a c :=
  h.grown hg hB' (fun k hk => by cases hk; exact hB)
theorem Box2.grown {w w' : World} {b : Nat} {r : Option Nat} {x y : Value} (h : Box2 w b x y) (hg : w.grownBy w' r) (hne : some b ≠ r) : Box2 w' b x y :=
  ⟨hg.cell h.1 hne, hg.cell h.2 hne⟩
theorem Box3.grown {w w' : World} {b : Nat} {r : Option Nat} {x y z : Value} (h : Box3 w b x y z) (hg : w.grownBy w' r) (hne : some b ≠ r) : Box3 w' b x y z :=
  ⟨hg.cell h.1 hne, hg.cell h.2.1 hne, hg.cell h.2.2 hne⟩
theorem RB2.grown {w w' : World} {b : Nat} {r : Option Nat} {x y : Value} (h : RB2 w b x y) (hg : w.grownBy w' r) (hne : some b ≠ r) : RB2 w' b x y :=
  ⟨h.1.grown hg hne, fun k => (World.frozen?_of_block (a := ⟨b, k, none⟩) (hg.block b h.1.lt hne)).trans (h.2 k)⟩
theorem RB3.grown {w w' : World} {b : Nat} {r : Option Nat} {x y z : Value} (h : RB3 w b x y z) (hg : w.grownBy w' r) (hne : some b ≠ r) : RB3 w' b x y z :=
  ⟨h.1.grown hg hne, fun k => (World.frozen?_of_block (a := ⟨b, k, none⟩) (hg.block b h.1.lt hne)).trans (h.2 k)⟩
theorem Box2.put' {w : World} {b : Nat} {x y : Value} (h : Box2 w b x y) {a : Addr} (ha : a.block ≠ b) (u : Value) : Box2 (w.setCell a u) b x y :=
  ⟨(World.cell?_setCell_other w a ⟨b, 0, none⟩ u (fun e => ha (by first | simp [e] | simp [← e]))).trans h.1,
   (World.cell?_setCell_other w a ⟨b, 1, none⟩ u (fun e => ha (by first | simp [e] | simp [← e]))).trans h.2⟩
theorem RB2.put' {w : World} {b : Nat} {x y : Value} (h : RB2 w b x y) {a : Addr} (ha : a.block ≠ b) (u : Value) : RB2 (w.setCell a u) b x y :=
  ⟨h.1.put' ha u, fun k => by rw [World.frozen?_setCell]; exact h.2 k⟩
theorem OwI.shapeN {w : World} {B n : Nat} {v : Value} {xs : List Int} (h : OwI w B v xs) (hl : xs.length = n) : ∃ o c, v = .slice o n c := by
  obtain ⟨o, c, rfl⟩ := h.shape; exact ⟨o, c, by rw [hl]⟩
theorem stI {ops : Array Oper} {o : Oper} {a : Act} {Q : Exit → Act → World → Prop} {K : Act → World → Prop} {E : Prop} (w : World) (hg : o.guard = none) (s x : Operand) (hop : o.op = .call { callee := .builtin .append, args := #[s, x], argTypes := #[34, 34] })
    (B : Nat) (v : Value) (xs : List Int) (hs : a.eval s = v) (hown : OwI w B v xs) (y : Int) (hx : a.eval x = .slice (some ⟨w.heap.size, 0, none⟩) 1 1)
    (hn : xs.length < 1099511627776) (hB : B ≤ w.heap.size)
    (hK : ∀ v' w', OwI w' B v' (xs ++ [y]) → Below B w w' → K (a.put o.dst v') w') :
    if Region.wanted o (yielded ops a.tmps) = true then Oper.wp Tryz.prog o a (w.alloc (.cells #[.int .i64 y] 2)).drew K Q else E := by
  have hw : Region.wanted o (yielded ops a.tmps) = true := by simp [Region.wanted, hg]
  rw [if_pos hw]
  obtain ⟨i0, hi, hz0, hz1, hz2⟩ := info_parts info_i
  have hown' : OwI (w.alloc (.cells #[.int .i64 y] 2)).drew B v xs := World.ownsRow.alloc hown _
  refine wp_append_own _ s x 34 hop B 2 i0 (.int .i64 0) 1 8 Tryz.underlying34 hi hz0 hz1 hz2 rfl (by decide) v xs.length (xs.map (Value.int .i64)) hs hown' ⟨w.heap.size, 0, none⟩ 1 1 [.int .i64 y] hx rfl (cell_one_new _ _ _) (ints_oneCell .i64 [y]) (by unfold maxLen; omega) (by omega) (by simp; omega) ?_
  intro v' w' hown2 hgrow _
  refine hK v' w' (by unfold OwI; rw [List.length_append, List.map_append]; exact hown2) ?_
  refine Below.grown (((Below.refl B w).alloc hB _).drew) hgrow (by simp; omega) ?_
  intro k hk
  exact (OwI.lt hown k hk).1
theorem OwI.row {w : World} {B n c : Nat} {o : Option Addr} {xs : List Int} (h : OwI w B (.slice o n c) xs) (hn : 1 ≤ n) : ∃ g, o = some ⟨g, 0, none⟩ ∧ B ≤ g ∧ g < w.heap.size := by
  have e := h.len
  obtain ⟨g, cap, hv, h1, h2, -, -, -⟩ := h.opn (by omega)
  exact ⟨g, (Value.slice.inj hv).1, h1, h2⟩
theorem stillC {P : Program} {f : FuncId} {args : Array Value} {w : World} {v : Value} (h : Calls P f args w fun e w' => e = .returned v ∧ w = w') : Calls P f args w fun e w' => e = .returned v ∧ w' = w := h.mono fun _ _ ⟨h1, h2⟩ => ⟨h1, h2.symm⟩
end Go.Proofs.YteijannfbafdpaaGreatDoor

/- Words of memory for tables: slices of slices of integers. -/
set_option linter.unusedSimpArgs false
set_option linter.unusedVariables false
namespace Go.Proofs.YteijannfbafdpaaGreatDoor
open Go.RowKit

def RdT (w : World) (v : Value) (xss : List (List Int)) : Prop :=
  ∃ o c, v = .slice o xss.length c ∧ (xss.length ≤ maxLen ∧ xss.length ≤ c ∧ (o = none → c = 0)) ∧
    (∀ k row, xss[k]? = some row → ∃ b off u, o = some ⟨b, off, none⟩ ∧ w.cell? ⟨b, off + k, none⟩ = some u ∧ RdI w u row)

theorem RdT.below {B : Nat} {w w' : World} {v : Value} {xss : List (List Int)} (h : RdT w v xss) (hb : Below B w w') (hB : w.heap.size ≤ B) : RdT w' v xss := by
  obtain ⟨o, c, rfl, hm, hc⟩ := h
  refine ⟨o, c, rfl, hm, fun k x hx => ?_⟩
  obtain ⟨b, off, u, ho, hcell, hr⟩ := hc k x hx
  exact ⟨b, off, u, ho, keep_cell hb hB hcell, hr.below hb hB⟩
theorem RdT.len {w : World} {o : Option Addr} {n c : Nat} {xss : List (List Int)} (h : RdT w (.slice o n c) xss) : n = xss.length ∧ xss.length ≤ maxLen ∧ xss.length ≤ c := by
  obtain ⟨o', c', heq, hm, hc⟩ := h
  obtain ⟨rfl, rfl, rfl⟩ : o = o' ∧ n = xss.length ∧ c = c' := by simpa using heq
  exact ⟨rfl, hm.1, hm.2.1⟩
theorem RdT.rows {w : World} {o : Option Addr} {n c : Nat} {xss : List (List Int)} (h : RdT w (.slice o n c) xss) (hx : 1 ≤ xss.length) :
    ∃ b off, o = some ⟨b, off, none⟩ ∧ ∀ k row, xss[k]? = some row → ∃ u, w.cell? ⟨b, off + k, none⟩ = some u ∧ RdI w u row := by
  obtain ⟨o', c', heq, hm, hc⟩ := h
  obtain ⟨rfl, rfl, rfl⟩ : o = o' ∧ n = xss.length ∧ c = c' := by simpa using heq
  obtain ⟨b, off, -, ho, -, -⟩ := hc 0 (xss[0]) (by simp)
  refine ⟨b, off, ho, fun k x hk => ?_⟩
  obtain ⟨b', off', u, ho', hcell', hr⟩ := hc k x hk
  rw [ho] at ho'
  obtain ⟨rfl, rfl⟩ : b = b' ∧ off = off' := by simpa using ho'
  exact ⟨u, hcell', hr⟩
theorem RdT.row {w : World} {b off n c : Nat} {xss : List (List Int)} (h : RdT w (.slice (some ⟨b, off, none⟩) n c) xss) {k : Nat} {row : List Int} (hx : xss[k]? = some row) :
    ∃ o c, w.cell? ⟨b, off + k, none⟩ = some (.slice o row.length c) ∧ RdI w (.slice o row.length c) row := by
  obtain ⟨b', off', ho, hc⟩ := h.rows (by have := (List.getElem?_eq_some_iff.1 hx).1; omega)
  obtain ⟨rfl, rfl⟩ : b = b' ∧ off = off' := by simpa using ho
  obtain ⟨u, h1, h2⟩ := hc k row hx
  obtain ⟨o, c, rfl, -, -⟩ := id h2
  exact ⟨o, c, h1, h2⟩

def OwS (w : World) (B : Nat) (v : Value) (xss : List (List Int)) : Prop :=
  ∃ us : List Value, us.length = xss.length ∧ w.ownsRow B 34 1 v xss.length us ∧
    (∀ (k : Nat) (u : Value) (row : List Int), us[k]? = some u → xss[k]? = some row → OwI w B u row) ∧
    (∀ (i j : Nat) (u u' : Value) (b : Nat), us[i]? = some u → us[j]? = some u' → u.ownBlock = some b → u'.ownBlock = some b → i = j) ∧
    (∀ (i : Nat) (u : Value) (b : Nat), us[i]? = some u → u.ownBlock = some b → v.ownBlock = some b → False)

theorem OwS.shape {w : World} {B : Nat} {v : Value} {xss : List (List Int)} (h : OwS w B v xss) : ∃ o c, v = .slice o xss.length c := by
  obtain ⟨us, hl, ⟨_, hr⟩, -⟩ := h
  rcases hr with ⟨rfl, h0⟩ | ⟨g, cap, cur, rfl, -⟩
  · exact ⟨none, 0, by rw [h0]⟩
  · exact ⟨_, _, rfl⟩
theorem OwS.shapeN {w : World} {B n : Nat} {v : Value} {xss : List (List Int)} (h : OwS w B v xss) (hl : xss.length = n) : ∃ o c, v = .slice o n c := by
  obtain ⟨o, c, rfl⟩ := h.shape; exact ⟨o, c, by rw [hl]⟩
theorem OwS.nil (w : World) (B : Nat) : OwS w B (.slice none 0 0) [] := ⟨[], rfl, World.ownsRow_nil _ _ _ _, by simp, by simp, by simp⟩
theorem OwS.mono {w : World} {B B' : Nat} {v : Value} {xss : List (List Int)} (h : OwS w B v xss) (hB : B' ≤ B) : OwS w B' v xss := by
  obtain ⟨us, hl, hr, h1, h2, h3⟩ := h
  refine ⟨us, hl, ⟨hr.1, ?_⟩, fun k u row hu hx => (h1 k u row hu hx).mono hB, h2, h3⟩
  rcases hr.2 with h | ⟨g, cap, cur, hv, hg, r⟩
  · exact .inl h
  · exact .inr ⟨g, cap, cur, hv, by omega, r⟩
theorem OwS.kept {w w' : World} {B : Nat} {v : Value} {xss : List (List Int)} {row : Option Nat} (h : OwS w B v xss) (hg : w.grownBy w' row) (hne : ∀ b, row = some b → b < B ∨ w.heap.size ≤ b) : OwS w' B v xss := by
  obtain ⟨us, hl, hr, h1, h2, h3⟩ := h
  have hk : ∀ u : Value, (∀ k, u.ownBlock = some k → B ≤ k ∧ k < w.heap.size) → u.ownBlock = none ∨ u.ownBlock ≠ row := by
    intro u hu
    cases e : u.ownBlock with
    | none => exact .inl rfl
    | some k =>
      refine .inr fun e' => ?_
      have := hu k e
      have := hne k e'.symm
      omega
  refine ⟨us, hl, hr.kept hg (hk v hr.lt), fun k u row hu hx => (h1 k u row hu hx).kept hg (hk u (h1 k u row hu hx).lt), h2, h3⟩
theorem OwS.below {w w' : World} {B : Nat} {v : Value} {xss : List (List Int)} (h : OwS w B v xss) (hb : Below w.heap.size w w') : OwS w' B v xss :=
  h.kept (row := none) ⟨hb.os, hb.tape, hb.output, hb.size, fun k hk _ => hb.block k hk⟩ (fun b hb => by cases hb)
theorem OwS.alloc {w : World} {B : Nat} {v : Value} {xss : List (List Int)} (h : OwS w B v xss) (o : Obj) : OwS (w.alloc o) B v xss := h.kept (World.grownBy_alloc w o none) (fun b hb => by cases hb)
theorem OwS.low {w : World} {B : Nat} {v : Value} {xss : List (List Int)} (h : OwS w B v xss) {g k : Nat} (ha : g < B) (u : Value) : OwS (w.setCell ⟨g, k, none⟩ u) B v xss :=
  h.kept (grown_put w g k u) (fun b hb => .inl (by cases hb; exact ha))

theorem OwS.rd {w : World} {B : Nat} {v : Value} {xss : List (List Int)} (h : OwS w B v xss) : RdT w v xss := by
  obtain ⟨us, hl, hr, h1, -, -⟩ := h
  rcases id hr.2 with ⟨rfl, h0⟩ | ⟨g, cap, cur, rfl, hg, hh, hn, hcm, hcs, ht⟩
  · have : xss = [] := List.eq_nil_of_length_eq_zero h0
    subst this
    exact ⟨none, 0, rfl, ⟨Nat.zero_le _, Nat.zero_le _, fun _ => rfl⟩, fun k row hx => by simp at hx⟩
  · refine ⟨_, _, rfl, ⟨by omega, hn, fun h => by cases h⟩, fun k row hx => ?_⟩
    have hk : k < xss.length := (List.getElem?_eq_some_iff.1 hx).1
    have hu : us[k]? = some us[k] := by simp [hl, hk]
    refine ⟨g, 0, us[k], rfl, ?_, (h1 k _ row hu hx).rd⟩
    rw [Nat.zero_add, World.ownsRow.cellAt hr k (by omega)]; exact hu

theorem OwS.row {w : World} {B n c : Nat} {o : Option Addr} {xss : List (List Int)} (h : OwS w B (.slice o n c) xss) (hn : 1 ≤ n) : ∃ g, o = some ⟨g, 0, none⟩ ∧ B ≤ g ∧ g < w.heap.size := by
  obtain ⟨us, hl, hr, -⟩ := h
  rcases id hr.2 with ⟨h', h0⟩ | ⟨g, cap, cur, hv, hg, hh, -⟩
  · have := (Value.slice.inj h').2.1; omega
  · exact ⟨g, (Value.slice.inj hv).1, hg, (Array.getElem?_eq_some_iff.1 hh).1⟩
theorem OwS.len {w : World} {B n c : Nat} {o : Option Addr} {xss : List (List Int)} (h : OwS w B (.slice o n c) xss) : n = xss.length := by
  obtain ⟨o', c', he⟩ := h.shape; exact (Value.slice.inj he).2.1

theorem OwS.get {w : World} {B g n c : Nat} {xss : List (List Int)} (h : OwS w B (.slice (some ⟨g, 0, none⟩) n c) xss) {k : Nat} {row : List Int} (hx : xss[k]? = some row) :
    ∃ o c', w.cell? ⟨g, k, none⟩ = some (.slice o row.length c') ∧ OwI w B (.slice o row.length c') row ∧ (Value.slice o row.length c').ownBlock ≠ some g := by
  have hn := h.len
  obtain ⟨us, hl, hr, h1, -, h3⟩ := h
  subst hn
  have hk : k < xss.length := (List.getElem?_eq_some_iff.1 hx).1
  have hu : us[k]? = some us[k] := by simp [hl, hk]
  have how := h1 k _ row hu hx
  obtain ⟨o, c', he⟩ := how.shape
  rw [he] at how hu
  refine ⟨o, c', ?_, how, fun e => h3 k _ g hu e rfl⟩
  rw [World.ownsRow.cellAt hr k (by omega)]; exact hu
theorem OwS.fz {w : World} {B g n c : Nat} {xss : List (List Int)} (h : OwS w B (.slice (some ⟨g, 0, none⟩) n c) xss) (k : Nat) : w.frozen? ⟨g, k, none⟩ = false := by
  have hn := h.len
  obtain ⟨us, hl, hr, -⟩ := h
  subst hn
  exact World.ownsRow.frozenAt hr k

theorem OwS.put {w : World} {B g n c : Nat} {xss : List (List Int)} (h : OwS w B (.slice (some ⟨g, 0, none⟩) n c) xss) (k : Nat) {u : Value} {row : List Int} (hu : OwI w B u row)
    (hg : u.ownBlock ≠ some g) (hd : ∀ (j : Nat) (u' : Value) (r : List Int) (b : Nat), w.cell? ⟨g, j, none⟩ = some u' → xss[j]? = some r → j ≠ k → u.ownBlock = some b → u'.ownBlock ≠ some b) :
    OwS (w.setCell ⟨g, k, none⟩ u) B (.slice (some ⟨g, 0, none⟩) n c) (xss.set k row) := by
  have hn := h.len
  obtain ⟨us, hl, hr, h1, h2, h3⟩ := h
  subst hn
  have hgr := grown_put w g k u
  have hkeep : ∀ (u' : Value) r, OwI w B u' r → u'.ownBlock ≠ some g → OwI (w.setCell ⟨g, k, none⟩ u) B u' r := fun u' r ho hne => ho.kept hgr (.inr hne)
  have hne : ∀ (i : Nat) (u' : Value), us[i]? = some u' → u'.ownBlock ≠ some g := fun i u' hi e => h3 i u' g hi e rfl
  have hcell : ∀ j, j < xss.length → w.cell? ⟨g, j, none⟩ = us[j]? := fun j hj => World.ownsRow.cellAt hr j (by omega)
  refine ⟨us.set k u, by simp [hl], by rw [List.length_set]; exact (World.ownsRow.stored hr k u).1, ?_, ?_, ?_⟩
  · intro i u' r hi hxi
    rw [List.getElem?_set] at hi hxi
    by_cases e : k = i
    · subst e
      rw [if_pos rfl] at hi hxi
      split at hi
      · rename_i hlt
        rw [if_pos (by omega)] at hxi
        cases hi; cases hxi
        exact hkeep u row hu hg
      · cases hi
    · rw [if_neg e] at hi hxi
      exact hkeep u' r (h1 i u' r hi hxi) (hne i u' hi)
  · intro i j u1 u2 b hi hj hb1 hb2
    rw [List.getElem?_set] at hi hj
    by_cases e1 : k = i <;> by_cases e2 : k = j
    · omega
    · subst e1
      rw [if_pos rfl] at hi
      rw [if_neg e2] at hj
      split at hi
      · cases hi
        have hjl : j < us.length := (List.getElem?_eq_some_iff.1 hj).1
        exact absurd hb2 (hd j u2 (xss[j]'(by omega)) b (by rw [hcell j (by omega)]; exact hj) (by simp [show j < xss.length by omega]) (fun e => e2 e.symm) hb1)
      · cases hi
    · subst e2
      rw [if_pos rfl] at hj
      rw [if_neg e1] at hi
      split at hj
      · cases hj
        have hil : i < us.length := (List.getElem?_eq_some_iff.1 hi).1
        exact absurd hb1 (hd i u1 (xss[i]'(by omega)) b (by rw [hcell i (by omega)]; exact hi) (by simp [show i < xss.length by omega]) (fun e => e1 e.symm) hb2)
      · cases hj
    · rw [if_neg e1] at hi
      rw [if_neg e2] at hj
      exact h2 i j u1 u2 b hi hj hb1 hb2
  · intro i u' b hi hb hv
    rw [List.getElem?_set] at hi
    by_cases e : k = i
    · subst e
      rw [if_pos rfl] at hi
      split at hi
      · cases hi
        simp only [Value.ownBlock] at hv
        exact hg (by rw [hb]; exact hv.symm ▸ rfl)
      · cases hi
    · rw [if_neg e] at hi
      exact h3 i u' b hi hb hv

theorem OwS.putNew {w : World} {B B' g n c : Nat} {xss : List (List Int)} (h : OwS w B (.slice (some ⟨g, 0, none⟩) n c) xss) (k : Nat) {u : Value} {row : List Int} (hu : OwI w B' u row) (hB : B ≤ B') (hg : g < B')
    (hd : ∀ (j : Nat) (u' : Value) (r : List Int), w.cell? ⟨g, j, none⟩ = some u' → xss[j]? = some r → ∀ b : Nat, u'.ownBlock = some b → b < B') :
    OwS (w.setCell ⟨g, k, none⟩ u) B (.slice (some ⟨g, 0, none⟩) n c) (xss.set k row) := by
  refine h.put k (hu.mono hB) (fun e => by have := (hu.lt g e).1; omega) (fun j u' r b hc hx _ hb hb' => ?_)
  have := (hu.lt b hb).1
  have := hd j u' r hc hx b hb'
  omega
end Go.Proofs.YteijannfbafdpaaGreatDoor

/- Tables: sizes, marks, and how they live on. -/
set_option linter.unusedSimpArgs false
set_option linter.unusedVariables false
namespace Go.Proofs.YteijannfbafdpaaGreatDoor
open Go.RowKit

def numT : List (List Int) → Nat
  | [] => 0
  | r :: rs => r.length + numT rs
def sizeT (xss : List (List Int)) : Nat := xss.length + numT xss
theorem numT_app (a b : List (List Int)) : numT (a ++ b) = numT a + numT b := by
  induction a with
  | nil => simp [numT]
  | cons r a ih => simp only [List.cons_append, numT, ih]; omega
theorem numT_take (xss : List (List Int)) (k : Nat) (hk : k < xss.length) : numT (xss.take (k + 1)) = numT (xss.take k) + xss[k].length := by
  rw [List.take_succ_eq_append_getElem hk, numT_app]; simp [numT]
theorem numT_le (xss : List (List Int)) (k : Nat) : numT (xss.take k) ≤ numT xss := by
  have := numT_app (xss.take k) (xss.drop k)
  rw [List.take_append_drop] at this
  omega
theorem row_le {xss : List (List Int)} {k : Nat} (hk : k < xss.length) : xss[k].length ≤ numT xss := by
  have h1 := numT_take xss k hk
  have h2 := numT_le xss (k + 1)
  omega

def eqTB (xss yss : List (List Int)) : Bool := decide (xss = yss)
theorem eqTB_self (xss : List (List Int)) : eqTB xss xss = true := by simp [eqTB]
theorem eqTB_ne {xss yss : List (List Int)} (h : xss ≠ yss) : eqTB xss yss = false := by simp [eqTB, h]
theorem eqTB_idx {xss yss : List (List Int)} {k : Nat} {x y : List Int} (hx : xss[k]? = some x) (hy : yss[k]? = some y) (h : eqLB x y = false) : eqTB xss yss = false := by
  apply eqTB_ne; rintro rfl
  rw [hx] at hy
  cases hy
  simp [eqLB] at h
theorem takeT_eq {xss yss : List (List Int)} {k : Nat} {x y : List Int} (hx : xss[k]? = some x) (hy : yss[k]? = some y) (e : eqLB x y = true) (h : xss.take k = yss.take k) : xss.take (k+1) = yss.take (k+1) := by
  have : x = y := by simpa [eqLB] using e
  subst this
  rw [List.take_add_one, List.take_add_one, h, hx, hy]
theorem eqTB_take {xss yss : List (List Int)} {k : Nat} (h : xss.length = yss.length) (hk : ¬ k < xss.length) (ht : xss.take k = yss.take k) : eqTB xss yss = true := by
  rw [List.take_of_length_le (by omega), List.take_of_length_le (by omega)] at ht
  subst ht; exact eqTB_self _

def uptoT (xss : List (List Int)) (k : Nat) : List (List Int) := xss.take k ++ List.replicate (xss.length - k) []
theorem uptoT_0 (xss : List (List Int)) : uptoT xss 0 = List.replicate xss.length [] := by simp [uptoT]
theorem uptoT_all (xss : List (List Int)) : uptoT xss xss.length = xss := by simp [uptoT]
theorem uptoT_get (xss : List (List Int)) (k : Nat) (hk : k < xss.length) : (uptoT xss k)[k]? = some [] := by
  unfold uptoT
  rw [List.getElem?_append_right (by simp; omega), List.length_take, show k - min k xss.length = 0 by omega, List.getElem?_replicate, if_pos (by omega)]
theorem uptoT_set (xss : List (List Int)) (k : Nat) (hk : k < xss.length) : (uptoT xss k).set k xss[k] = uptoT xss (k+1) := by
  unfold uptoT
  rw [List.set_append_right _ _ (by simp; omega), List.length_take, show k - min k xss.length = 0 by omega, show xss.length - k = (xss.length - (k + 1)) + 1 by omega, List.replicate_succ, List.set_cons_zero,
    List.take_succ_eq_append_getElem hk, List.append_assoc]; rfl

def OwSR (lo hi : Nat) (w : World) (v : Value) (xss : List (List Int)) : Prop :=
  ∃ us : List Value, us.length = xss.length ∧ w.ownsRow lo 34 1 v xss.length us ∧
    (∀ (k : Nat) (u : Value) (row : List Int), us[k]? = some u → xss[k]? = some row → OwI w lo u row) ∧
    (∀ (i j : Nat) (u u' : Value) (b : Nat), us[i]? = some u → us[j]? = some u' → u.ownBlock = some b → u'.ownBlock = some b → i = j) ∧
    (∀ (i : Nat) (u : Value) (b : Nat), us[i]? = some u → u.ownBlock = some b → v.ownBlock = some b → False) ∧
    (∀ b : Nat, v.ownBlock = some b → b < hi) ∧ (∀ (k : Nat) (u : Value) (b : Nat), us[k]? = some u → u.ownBlock = some b → b < hi)
theorem OwSR.ow {lo hi : Nat} {w : World} {v : Value} {xss : List (List Int)} (h : OwSR lo hi w v xss) : OwS w lo v xss := by
  obtain ⟨us, h1, h2, h3, h4, h5, -⟩ := h; exact ⟨us, h1, h2, h3, h4, h5⟩
theorem OwSR.rd {lo hi : Nat} {w : World} {v : Value} {xss : List (List Int)} (h : OwSR lo hi w v xss) : RdT w v xss := h.ow.rd
theorem OwS.toR {w : World} {B : Nat} {v : Value} {xss : List (List Int)} (h : OwS w B v xss) : OwSR B w.heap.size w v xss := by
  obtain ⟨us, h1, h2, h3, h4, h5⟩ := h
  refine ⟨us, h1, h2, h3, h4, h5, fun b hb => (h2.lt b hb).2, fun k u b hu hb => ?_⟩
  have hk : k < us.length := (List.getElem?_eq_some_iff.1 hu).1
  exact ((h3 k u (xss[k]'(by omega)) hu (by simp [show k < xss.length by omega])).lt b hb).2
theorem OwI.stay {u u' : World} {lo hi : Nat} {v : Value} {xs : List Int} (h : OwI u lo v xs) (hb : ∀ b : Nat, v.ownBlock = some b → b < hi) (hk : ∀ k, lo ≤ k → k < hi → u'.heap[k]? = u.heap[k]?) : OwI u' lo v xs := by
  obtain ⟨h1, h2⟩ := h
  refine ⟨h1, ?_⟩
  rcases h2 with h2 | ⟨g, cap, cur, hv, hg, hh, r⟩
  · exact .inl h2
  · exact .inr ⟨g, cap, cur, hv, hg, by rw [hk g hg (hb g (by rw [hv]; rfl))]; exact hh, r⟩
theorem OwSR.stay {u u' : World} {lo hi : Nat} {v : Value} {xss : List (List Int)} (h : OwSR lo hi u v xss) (hk : ∀ k, lo ≤ k → k < hi → u'.heap[k]? = u.heap[k]?) : OwSR lo hi u' v xss := by
  obtain ⟨us, h1, h2, h3, h4, h5, h6, h7⟩ := h
  refine ⟨us, h1, ⟨h2.1, ?_⟩, fun k w' row hu hx => (h3 k w' row hu hx).stay (h7 k w' · hu) hk, h4, h5, h6, h7⟩
  rcases h2.2 with h2 | ⟨g, cap, cur, hv, hg, hh, r⟩
  · exact .inl h2
  · exact .inr ⟨g, cap, cur, hv, hg, by rw [hk g hg (h6 g (by rw [hv]; rfl))]; exact hh, r⟩

def RdTU (us : List Value) (w : World) (v : Value) (xss : List (List Int)) : Prop :=
  ∃ o c, v = .slice o xss.length c ∧ (xss.length ≤ maxLen ∧ xss.length ≤ c ∧ (o = none → c = 0)) ∧
    (∀ k row, xss[k]? = some row → ∃ b off u, o = some ⟨b, off, none⟩ ∧ us[k]? = some u ∧ w.cell? ⟨b, off + k, none⟩ = some u ∧ RdI w u row)
theorem RdTU.rd {us : List Value} {w : World} {v : Value} {xss : List (List Int)} (h : RdTU us w v xss) : RdT w v xss := by
  obtain ⟨o, c, h1, h2, h3⟩ := h
  exact ⟨o, c, h1, h2, fun k row hx => by obtain ⟨b, off, u, e1, -, e2, e3⟩ := h3 k row hx; exact ⟨b, off, u, e1, e2, e3⟩⟩
theorem RdT.named {w : World} {v : Value} {xss : List (List Int)} (h : RdT w v xss) : ∃ us, RdTU us w v xss := by
  obtain ⟨o, c, rfl, hm, hc⟩ := h
  cases o with
  | none =>
    refine ⟨[], none, c, rfl, hm, fun k row hx => ?_⟩
    obtain ⟨b, off, u, e, -⟩ := hc k row hx
    cases e
  | some a =>
    refine ⟨(List.range xss.length).map (fun k => (w.cell? ⟨a.block, a.off + k, none⟩).getD default), some a, c, rfl, hm, fun k row hx => ?_⟩
    have hk : k < xss.length := (List.getElem?_eq_some_iff.1 hx).1
    obtain ⟨b, off, u, e, hcell, hr⟩ := hc k row hx
    obtain rfl := Option.some.inj e
    exact ⟨b, off, u, rfl, by simp [hk, hcell], hcell, hr⟩
theorem RdI.stay {w u u' : World} {v : Value} {xs : List Int} (h : RdI w v xs) (hu : RdI u v xs) (hk : ∀ k, k < w.heap.size → u'.heap[k]? = u.heap[k]?) : RdI u' v xs :=
  (Lives.rdI h).stay u u' (fun k _ hk' => hk k hk') hu
theorem Lives.rdT {w : World} {v : Value} {xss : List (List Int)} (h : RdT w v xss) : ∃ us, Lives 0 w.heap.size w (fun u => RdTU us u v xss) := by
  obtain ⟨us, hu⟩ := h.named
  refine ⟨us, hu, Nat.le_refl _, ?_⟩
  obtain ⟨o, c, rfl, hm, hc⟩ := hu
  rintro u u' hk ⟨o', c', heq, hm', hc'⟩
  obtain ⟨rfl, rfl⟩ : o = o' ∧ c = c' := by simpa using heq
  refine ⟨o, c, rfl, hm', fun k row hx => ?_⟩
  obtain ⟨b, off, z, hb, hus, hcell, hr⟩ := hc' k row hx
  obtain ⟨b1, off1, z1, hb1, hus1, hcell1, hr1⟩ := hc k row hx
  rw [hb] at hb1
  obtain ⟨rfl, rfl⟩ : b = b1 ∧ off = off1 := by simpa using hb1
  rw [hus] at hus1
  obtain rfl := Option.some.inj hus1
  exact ⟨b, off, z, hb, hus, (World.cell?_of_block (w := u) (a := ⟨b, off + k, none⟩) (hk b (Nat.zero_le _) (cell_lt hcell1))).trans hcell, hr1.stay hr (fun k hk' => hk k (Nat.zero_le _) hk')⟩
theorem Lives.owS {w w' : World} {v : Value} {xss : List (List Int)} (h : OwS w' w.heap.size v xss) (hB : w.heap.size ≤ w'.heap.size) : Lives w.heap.size w'.heap.size w' (fun u => OwSR w.heap.size w'.heap.size u v xss) :=
  ⟨h.toR, Nat.le_refl _, fun u u' hk hx => hx.stay hk⟩
end Go.Proofs.YteijannfbafdpaaGreatDoor

/- Tables that the call makes: make, append, rows that are written. -/
set_option linter.unusedSimpArgs false
set_option linter.unusedVariables false
namespace Go.Proofs.YteijannfbafdpaaGreatDoor
open Go.RowKit

theorem info_s : (Tryz.prog.info? 34).map (fun i => (i.zero, i.size, i.bytes)) = some (some (.slice none 0 0), 1, 24) := by kernel_rfl

section
variable {ops : Array Oper} {rest : List Oper} {o : Oper} {a : Act} {Q : Exit → Act → World → Prop}
theorem mkT (w : World) (hg : o.guard = none) (l c : Operand) (hop : o.op = Op.makeSlice 22 l c) (kl kc : IntKind) (L : Int) (n : Nat)
    (hl : a.eval l = .int kl L) (hc : a.eval c = .int kc L) (hL : L = (n : Int)) (hn : n ≤ 1048576)
    (hK : ∀ w', OwS w' w.heap.size (.slice (some ⟨w.heap.size, 0, none⟩) n n) (List.replicate n []) → Below w.heap.size w w' → w'.heap.size = w.heap.size + 1 → wpList Tryz.prog ops Q rest (a.put o.dst (.slice (some ⟨w.heap.size, 0, none⟩) n n)) w') :
    wpList Tryz.prog ops Q (o :: rest) a w := by
  obtain ⟨i0, hi, hz0, hz1, hz2⟩ := info_parts info_s
  subst hL
  refine wpList_plain hg fun K hK' => ?_
  have hr := run_make (P := Tryz.prog) w 22 34 i0 (.slice none 0 0) Tryz.underlying22 hi hz0 kl kc n n (by omega) (Int.le_refl _) (by rw [hz2]; omega) (by omega)
  simp only [Int.toNat_natCast, hz1, Nat.mul_one] at hr
  unfold Oper.wp
  have := hK (w.alloc (.cells (madeCells (Value.slice none 0 0).cells n) 34)) (by
    have h := World.ownsRow_lit (base := w.heap.size) (e := 34) (size := 1) w (madeCells (Value.slice none 0 0).cells n) n (Nat.le_refl _) (by unfold maxLen; omega) (by simp [size_madeCells])
    have e : (madeCells (Value.slice none 0 0).cells n).toList = List.replicate n (Value.slice none 0 0) := by
      rw [show (Value.slice none 0 0).cells = #[Value.slice none 0 0] from rfl, toList_madeCells_one]
    rw [e] at h
    have hnone : ∀ (i : Nat) (u : Value), (List.replicate n (Value.slice none 0 0))[i]? = some u → u = .slice none 0 0 := fun i u hu => by
      rw [List.getElem?_replicate] at hu; split at hu
      · exact (Option.some.inj hu).symm
      · cases hu
    refine ⟨List.replicate n (Value.slice none 0 0), by simp, by rw [List.length_replicate]; exact h, fun k u row hu hx => ?_, fun i j u u' b hu hu' hb hb' => ?_, fun i u b hu hb hv => ?_⟩
    · obtain rfl := hnone k u hu
      have : row = [] := by
        rw [List.getElem?_replicate] at hx; split at hx
        · exact (Option.some.inj hx).symm
        · cases hx
      subst this; exact OwI.nil _ _
    · obtain rfl := hnone i u hu; simp [Value.ownBlock] at hb
    · obtain rfl := hnone i u hu; simp [Value.ownBlock] at hb) (below_of_grown (World.grownBy_alloc w _ none) (Nat.le_refl _) (fun k h => by cases h)) (by simp)
  simp [execOp, hop, hl, hc, hr, Result.andThen]
  exact hK' _ _ this
end

theorem OwS.putNew' {w w2 : World} {B g n c : Nat} {xss : List (List Int)} (h : OwS w B (.slice (some ⟨g, 0, none⟩) n c) xss) (hg : g < w.heap.size) (hb : Below w.heap.size w w2) (k : Nat) {u : Value} {row : List Int} (hu : OwI w2 w.heap.size u row) (hB : B ≤ w.heap.size) :
    OwS (w2.setCell ⟨g, k, none⟩ u) B (.slice (some ⟨g, 0, none⟩) n c) (xss.set k row) := by
  refine (h.below hb).putNew k hu hB hg (fun j u' r hc hx b hbb => ?_)
  obtain ⟨o', c', hcell, how, -⟩ := h.get hx
  have e := (hb.cell (p := ⟨g, j, none⟩) hg).symm.trans hc
  rw [hcell] at e
  obtain rfl := Option.some.inj e
  exact (how.lt b hbb).2

theorem OwSR.at {w : World} {lo hi g n c : Nat} {xss : List (List Int)} (h : OwSR lo hi w (.slice (some ⟨g, 0, none⟩) n c) xss) {k : Nat} {row : List Int} (hx : xss[k]? = some row) :
    ∃ o c', w.cell? ⟨g, k, none⟩ = some (.slice o row.length c') ∧ OwI w lo (.slice o row.length c') row ∧ (∀ b : Nat, (Value.slice o row.length c').ownBlock = some b → lo ≤ b ∧ b < hi ∧ b ≠ g) ∧
      (∀ w' row', row'.length = row.length → w.grownBy w' (Value.slice o row.length c').ownBlock → OwI w' lo (.slice o row.length c') row' → OwSR lo hi w' (.slice (some ⟨g, 0, none⟩) n c) (xss.set k row')) := by
  have hn := h.ow.len
  obtain ⟨us, hl, hr, h1, h2, h3, h4, h5⟩ := h
  subst hn
  have hk : k < xss.length := (List.getElem?_eq_some_iff.1 hx).1
  have hu : us[k]? = some us[k] := by simp [hl, hk]
  have how := h1 k _ row hu hx
  obtain ⟨o, c', he⟩ := how.shape
  rw [he] at how hu
  refine ⟨o, c', by rw [World.ownsRow.cellAt hr k (by omega)]; exact hu, how, fun b hb => ⟨(how.lt b hb).1, h5 k _ b hu hb, fun e => h3 k _ g hu (by rw [hb, e]) rfl⟩, fun w' row' hlen hg how' => ?_⟩
  have hr' := hr.kept hg (.inr fun e => h3 k _ g hu (by rw [← e]; rfl) rfl)
  refine ⟨us, by simp [hl], by rw [List.length_set]; exact hr', fun i u r hi hxi => ?_, h2, h3, h4, h5⟩
  · rw [List.getElem?_set] at hxi
    by_cases e : k = i
    · subst e
      rw [if_pos rfl, if_pos hk] at hxi
      cases hxi
      rw [hu] at hi
      cases hi
      exact how'
    · rw [if_neg e] at hxi
      refine (h1 i u r hi hxi).kept hg ?_
      cases eo : u.ownBlock with
      | none => exact .inl rfl
      | some b => exact .inr fun e' => e (h2 k i _ u b hu hi (by rw [← e']) eo)

section
variable {ops : Array Oper} {rest : List Oper} {o : Oper} {a : Act} {Q : Exit → Act → World → Prop}
theorem wpApT {K : Act → World → Prop} (W : World) (s x : Operand) (hop : o.op = .call { callee := .builtin .append, args := #[s, x], argTypes := #[22, 22] })
    (B F : Nat) (v : Value) (xss : List (List Int)) (hs : a.eval s = v) (hown : OwSR B F W v xss) (hF : F ≤ W.heap.size) (hBF : B ≤ F) (u : Value) (row : List Int) (k : Nat) (hx : a.eval x = .slice (some ⟨k, 0, none⟩) 1 1)
    (hcell : W.cell? ⟨k, 0, none⟩ = some u) (hu : OwI W F u row) (hn : xss.length < 1048576)
    (hK : ∀ g cap w', OwS w' B (.slice (some ⟨g, 0, none⟩) (xss.length + 1) cap) (xss ++ [row]) → W.grownBy w' v.ownBlock → Below B W w' → K (a.put o.dst (.slice (some ⟨g, 0, none⟩) (xss.length + 1) cap)) w') :
    Oper.wp Tryz.prog o a W K Q := by
  obtain ⟨i0, hi, hz0, hz1, hz2⟩ := info_parts info_s
  obtain ⟨us, hl, hr, h1, h2, h3, h4, h5⟩ := hown
  obtain ⟨ou, cu, hush⟩ := hu.shape
  refine wp_append_lies W s x 22 hop B 34 i0 (.slice none 0 0) 1 24 Tryz.underlying22 hi hz0 hz1 hz2 rfl (by decide) v xss.length us hs hr ⟨k, 0, none⟩ 1 1 [u] hx rfl (fun j u' hj => ?_) (fun u' hu' => ?_) (by decide) (by unfold maxLen; omega) (by omega) (by omega) W.heap.size rfl ?_
  · match j with
    | 0 => simp at hj; subst hj; simpa [Addr.add] using hcell
    | j + 1 => simp at hj
  · simp at hu'; subst hu'; rw [hush]; rfl
  · intro g cap w' hown' hgrow hlies hglt
    have hul := hu.lt
    have hgb : Below B W w' := Below.grown (Below.refl B W) hgrow (by omega) (fun b hb => (hr.lt b hb).1)
    have hrowlt : ∀ (i : Nat) (u' : Value) (b : Nat), us[i]? = some u' → u'.ownBlock = some b → b < F := h5
    refine hK g cap w' ⟨us ++ [u], by simp [hl], by rw [List.length_append]; exact hown', fun i u' r hi' hxi => ?_, fun i j u1 u2 b hi1 hj1 hb1 hb2 => ?_, fun i u' b hi' hb hv => ?_⟩ hgrow hgb
    · rw [List.getElem?_append] at hi' hxi
      by_cases hil : i < us.length
      · rw [if_pos hil] at hi'
        rw [if_pos (by omega)] at hxi
        refine (h1 i u' r hi' hxi).kept hgrow ?_
        cases e : u'.ownBlock with
        | none => exact .inl rfl
        | some b => exact .inr fun e' => h3 i u' b hi' e e'.symm
      · rw [if_neg hil] at hi'
        rw [if_neg (by omega)] at hxi
        have e1 : i - us.length = 0 := by
          have := (List.getElem?_eq_some_iff.1 hi').1; simp at this; omega
        rw [show i - xss.length = 0 by omega] at hxi
        rw [e1] at hi'
        simp at hi' hxi
        subst hi' hxi
        refine (hu.mono hBF).kept hgrow ?_
        cases e : u.ownBlock with
        | none => exact .inl rfl
        | some b => exact .inr fun e' => by have := (hul b e).1; have := h4 b e'.symm; omega
    · rw [List.getElem?_append] at hi1 hj1
      by_cases hil : i < us.length <;> by_cases hjl : j < us.length
      · rw [if_pos hil] at hi1; rw [if_pos hjl] at hj1; exact h2 i j u1 u2 b hi1 hj1 hb1 hb2
      · rw [if_pos hil] at hi1; rw [if_neg hjl] at hj1
        have : j - us.length = 0 := by have := (List.getElem?_eq_some_iff.1 hj1).1; simp at this; omega
        rw [this] at hj1; simp at hj1; subst hj1
        have := h5 i u1 b hi1 hb1; have := (hul b hb2).1; omega
      · rw [if_neg hil] at hi1; rw [if_pos hjl] at hj1
        have : i - us.length = 0 := by have := (List.getElem?_eq_some_iff.1 hi1).1; simp at this; omega
        rw [this] at hi1; simp at hi1; subst hi1
        have := h5 j u2 b hj1 hb2; have := (hul b hb1).1; omega
      · rw [if_neg hil] at hi1; rw [if_neg hjl] at hj1
        have := (List.getElem?_eq_some_iff.1 hi1).1; have := (List.getElem?_eq_some_iff.1 hj1).1
        simp at *; omega
    · have hvg : b = g := by simp [Value.ownBlock] at hv; exact hv.symm
      subst hvg
      rw [List.getElem?_append] at hi'
      by_cases hil : i < us.length
      · rw [if_pos hil] at hi'
        rcases hlies with hl' | hl'
        · exact h3 i u' b hi' hb hl'
        · have := h5 i u' b hi' hb; omega
      · rw [if_neg hil] at hi'
        have : i - us.length = 0 := by have := (List.getElem?_eq_some_iff.1 hi').1; simp at this; omega
        rw [this] at hi'; simp at hi'; subst hi'
        rcases hlies with hl' | hl'
        · have := h4 b hl'; have := (hul b hb).1; omega
        · have := (hul b hb).2; omega
theorem apT (W : World) (hg : o.guard = none) (s x : Operand) (hop : o.op = .call { callee := .builtin .append, args := #[s, x], argTypes := #[22, 22] })
    (B F : Nat) (v : Value) (xss : List (List Int)) (hs : a.eval s = v) (hown : OwSR B F W v xss) (hF : F ≤ W.heap.size) (hBF : B ≤ F) (u : Value) (row : List Int) (k : Nat) (hx : a.eval x = .slice (some ⟨k, 0, none⟩) 1 1)
    (hcell : W.cell? ⟨k, 0, none⟩ = some u) (hu : OwI W F u row) (hn : xss.length < 1048576)
    (hK : ∀ g cap w', OwS w' B (.slice (some ⟨g, 0, none⟩) (xss.length + 1) cap) (xss ++ [row]) → W.grownBy w' v.ownBlock → Below B W w' → wpList Tryz.prog ops Q rest (a.put o.dst (.slice (some ⟨g, 0, none⟩) (xss.length + 1) cap)) w') :
    wpList Tryz.prog ops Q (o :: rest) a W :=
  wpList_plain hg fun _ hK' => wpApT W s x hop B F v xss hs hown hF hBF u row k hx hcell hu hn fun g cap w' h1 h2 h3 => hK' _ _ (hK g cap w' h1 h2 h3)
theorem stT {K : Act → World → Prop} {E : Prop} (W : World) (hg : o.guard = none) (s x : Operand) (hop : o.op = .call { callee := .builtin .append, args := #[s, x], argTypes := #[22, 22] })
    (B F : Nat) (v : Value) (xss : List (List Int)) (hs : a.eval s = v) (hown : OwSR B F W v xss) (hF : F ≤ W.heap.size) (hBF : B ≤ F) (u : Value) (row : List Int) (k : Nat) (hx : a.eval x = .slice (some ⟨k, 0, none⟩) 1 1)
    (hcell : W.cell? ⟨k, 0, none⟩ = some u) (hu : OwI W F u row) (hn : xss.length < 1048576)
    (hK : ∀ g cap w', OwS w' B (.slice (some ⟨g, 0, none⟩) (xss.length + 1) cap) (xss ++ [row]) → W.grownBy w' v.ownBlock → Below B W w' → K (a.put o.dst (.slice (some ⟨g, 0, none⟩) (xss.length + 1) cap)) w') :
    if Region.wanted o (yielded ops a.tmps) = true then Oper.wp Tryz.prog o a W K Q else E := by
  have hw : Region.wanted o (yielded ops a.tmps) = true := by simp [Region.wanted, hg]
  rw [if_pos hw]
  exact wpApT W s x hop B F v xss hs hown hF hBF u row k hx hcell hu hn hK
end

section
variable {ops : Array Oper} {rest : List Oper} {o : Oper} {a : Act} {Q : Exit → Act → World → Prop}
theorem stMk {K : Act → World → Prop} {E : Prop} {w : World} (hg : o.guard = none) (l c : Operand) (hop : o.op = Op.makeSlice 34 l c) (kl kc : IntKind) (L : Int) (n : Nat)
    (hl : a.eval l = .int kl L) (hc : a.eval c = .int kc L) (hL : L = (n : Int)) (hn : n ≤ 1099511627776)
    (hK : ∀ w', OwI w' w.heap.size (.slice (some ⟨w.heap.size, 0, none⟩) n n) (List.replicate n 0) → Below w.heap.size w w' → w'.heap.size = w.heap.size + 1 → K (a.put o.dst (.slice (some ⟨w.heap.size, 0, none⟩) n n)) w') :
    if Region.wanted o (yielded ops a.tmps) = true then Oper.wp Tryz.prog o a w K Q else E := by
  have hw : Region.wanted o (yielded ops a.tmps) = true := by simp [Region.wanted, hg]
  rw [if_pos hw]
  obtain ⟨i0, hi, hz0, hz1, hz2⟩ := info_parts info_i
  subst hL
  have hr := run_make (P := Tryz.prog) w 34 2 i0 (.int .i64 0) Tryz.underlying34 hi hz0 kl kc n n (by omega) (Int.le_refl _) (by rw [hz2]; omega) (by omega)
  simp only [Int.toNat_natCast, hz1, Nat.mul_one] at hr
  unfold Oper.wp
  have := hK (w.alloc (.cells (madeCells (Value.int IntKind.i64 0).cells n) 2)) (by
    have h := World.ownsRow_lit (base := w.heap.size) (e := 2) (size := 1) w (madeCells (Value.int IntKind.i64 0).cells n) n (Nat.le_refl _) (by unfold maxLen; omega) (by simp [size_madeCells])
    have e : (madeCells (Value.int IntKind.i64 0).cells n).toList = (List.replicate n (0 : Int)).map (Value.int .i64) := by
      rw [show (Value.int IntKind.i64 0).cells = #[Value.int IntKind.i64 0] from rfl, toList_madeCells_one, List.map_replicate]
    rw [e] at h
    unfold OwI
    rw [List.length_replicate]
    exact h) (below_of_grown (World.grownBy_alloc w _ none) (Nat.le_refl _) (fun k h => by cases h)) (by simp)
  simp [execOp, hop, hl, hc, hr, Result.andThen]
  exact this
end

theorem Box2.belowB {B : Nat} {w w' : World} {b : Nat} {x y : Value} (h : Box2 w b x y) (hb : Below B w w') (hB : b < B) : Box2 w' b x y :=
  ⟨(hb.cell (p := ⟨b, 0, none⟩) hB).trans h.1, (hb.cell (p := ⟨b, 1, none⟩) hB).trans h.2⟩
theorem RB2.belowB {B : Nat} {w w' : World} {b : Nat} {x y : Value} (h : RB2 w b x y) (hb : Below B w w') (hB : b < B) : RB2 w' b x y :=
  ⟨h.1.belowB hb hB, fun k => (hb.frozen (p := ⟨b, k, none⟩) hB).trans (h.2 k)⟩
theorem Box2.chg {lo hi : Nat} {w w' : World} {b : Nat} {x y : Value} (h : Box2 w b x y) (hc : Chg lo hi w w') (hb : b < lo ∨ hi ≤ b) : Box2 w' b x y :=
  ⟨(World.cell?_of_block (a := ⟨b, 0, none⟩) (hc.block b h.lt hb)).trans h.1, (World.cell?_of_block (a := ⟨b, 1, none⟩) (hc.block b h.lt hb)).trans h.2⟩
theorem RB2.chg {lo hi : Nat} {w w' : World} {b : Nat} {x y : Value} (h : RB2 w b x y) (hc : Chg lo hi w w') (hb : b < lo ∨ hi ≤ b) : RB2 w' b x y :=
  ⟨h.1.chg hc hb, fun k => (World.frozen?_of_block (a := ⟨b, k, none⟩) (hc.block b h.1.lt hb)).trans (h.2 k)⟩
theorem Chg.drew {lo hi : Nat} {a w : World} (h : Chg lo hi a w) : Chg lo hi a w.drew := ⟨h.os, h.tape, h.output, h.size, h.block⟩
theorem Chg.drewN {lo hi : Nat} {a w : World} (h : Chg lo hi a w) (n : Nat) : Chg lo hi a (w.drewN n) := ⟨h.os, h.tape, h.output, h.size, h.block⟩
theorem Chg.grown {lo hi g : Nat} {a w w' : World} (h : Chg lo hi a w) (hg : w.grownBy w' (some g)) (h1 : lo ≤ g) (h2 : g < hi) : Chg lo hi a w' := h.trans (Chg.of_grown hg (fun k hk => by cases hk; exact ⟨h1, h2⟩))

def OwSU (us : List Value) (lo hi : Nat) (w : World) (v : Value) (xss : List (List Int)) : Prop :=
  us.length = xss.length ∧ w.ownsRow lo 34 1 v xss.length us ∧
    (∀ (k : Nat) (u : Value) (row : List Int), us[k]? = some u → xss[k]? = some row → OwI w lo u row) ∧
    (∀ (i j : Nat) (u u' : Value) (b : Nat), us[i]? = some u → us[j]? = some u' → u.ownBlock = some b → u'.ownBlock = some b → i = j) ∧
    (∀ (i : Nat) (u : Value) (b : Nat), us[i]? = some u → u.ownBlock = some b → v.ownBlock = some b → False) ∧
    (∀ b : Nat, v.ownBlock = some b → b < hi) ∧ (∀ (k : Nat) (u : Value) (b : Nat), us[k]? = some u → u.ownBlock = some b → b < hi)
theorem OwSR.named {lo hi : Nat} {w : World} {v : Value} {xss : List (List Int)} (h : OwSR lo hi w v xss) : ∃ us, OwSU us lo hi w v xss := h
theorem OwSU.r {us : List Value} {lo hi : Nat} {w : World} {v : Value} {xss : List (List Int)} (h : OwSU us lo hi w v xss) : OwSR lo hi w v xss := ⟨us, h⟩
theorem OwSU.stay {us : List Value} {lo hi : Nat} {u u' : World} {v : Value} {xss : List (List Int)} (h : OwSU us lo hi u v xss) (hk : ∀ k, lo ≤ k → k < hi → u'.heap[k]? = u.heap[k]?) : OwSU us lo hi u' v xss := by
  obtain ⟨h1, h2, h3, h4, h5, h6, h7⟩ := h
  refine ⟨h1, ⟨h2.1, ?_⟩, fun k w' row hu hx => (h3 k w' row hu hx).stay (h7 k w' · hu) hk, h4, h5, h6, h7⟩
  rcases h2.2 with h2 | ⟨g, cap, cur, hv, hg, hh, r⟩
  · exact .inl h2
  · exact .inr ⟨g, cap, cur, hv, hg, by rw [hk g hg (h6 g (by rw [hv]; rfl))]; exact hh, r⟩
theorem OwSU.at {us : List Value} {w : World} {lo hi g n c : Nat} {xss : List (List Int)} (h : OwSU us lo hi w (.slice (some ⟨g, 0, none⟩) n c) xss) {k : Nat} {row : List Int} (hx : xss[k]? = some row) :
    ∃ o c', us[k]? = some (.slice o row.length c') ∧ w.cell? ⟨g, k, none⟩ = some (.slice o row.length c') ∧ OwI w lo (.slice o row.length c') row ∧ (∀ b : Nat, (Value.slice o row.length c').ownBlock = some b → lo ≤ b ∧ b < hi ∧ b ≠ g) ∧
      (∀ w' row', row'.length = row.length → w.grownBy w' (Value.slice o row.length c').ownBlock → OwI w' lo (.slice o row.length c') row' → OwSU us lo hi w' (.slice (some ⟨g, 0, none⟩) n c) (xss.set k row')) := by
  have hn := h.r.ow.len
  obtain ⟨hl, hr, h1, h2, h3, h4, h5⟩ := h
  subst hn
  have hk : k < xss.length := (List.getElem?_eq_some_iff.1 hx).1
  have hu : us[k]? = some us[k] := by simp [hl, hk]
  have how := h1 k _ row hu hx
  obtain ⟨o, c', he⟩ := how.shape
  rw [he] at how hu
  refine ⟨o, c', hu, by rw [World.ownsRow.cellAt hr k (by omega)]; exact hu, how, fun b hb => ⟨(how.lt b hb).1, h5 k _ b hu hb, fun e => h3 k _ g hu (by rw [hb, e]) rfl⟩, fun w' row' hlen hg how' => ?_⟩
  have hr' := hr.kept hg (.inr fun e => h3 k _ g hu (by rw [← e]; rfl) rfl)
  refine ⟨by simp [hl], by rw [List.length_set]; exact hr', fun i u r hi hxi => ?_, h2, h3, h4, h5⟩
  rw [List.getElem?_set] at hxi
  by_cases e : k = i
  · subst e
    rw [if_pos rfl, if_pos hk] at hxi
    cases hxi
    rw [hu] at hi
    cases hi
    exact how'
  · rw [if_neg e] at hxi
    refine (h1 i u r hi hxi).kept hg ?_
    cases eo : u.ownBlock with
    | none => exact .inl rfl
    | some b => exact .inr fun e' => e (h2 k i _ u b hu hi (by rw [← e']) eo)
theorem OwSU.row {us : List Value} {w : World} {lo hi n c : Nat} {o : Option Addr} {xss : List (List Int)} (h : OwSU us lo hi w (.slice o n c) xss) (hn : 1 ≤ n) : ∃ g, o = some ⟨g, 0, none⟩ ∧ lo ≤ g ∧ g < hi := by
  obtain ⟨g, rfl, h1, h2⟩ := h.r.ow.row hn
  exact ⟨g, rfl, h1, h.2.2.2.2.2.1 g rfl⟩
theorem OwS.lit0 (w : World) : OwS (w.alloc (.cells #[] 34)) w.heap.size (.slice (some ⟨w.heap.size, 0, none⟩) 0 0) [] := by
  have := World.ownsRow_lit (base := w.heap.size) (e := 34) (size := 1) w #[] 0 (Nat.le_refl _) (Nat.zero_le _) rfl
  exact ⟨[], rfl, this, by simp, by simp, by simp⟩
end Go.Proofs.YteijannfbafdpaaGreatDoor

/- The laws' own helpers on tables and planes. -/
set_option linter.unusedSimpArgs false
set_option linter.unusedVariables false
namespace Go.Proofs.YteijannfbafdpaaGreatDoor
open Go.RowKit

set_option maxHeartbeats 400000 in
theorem szInt64SS_c (v : Value) (xss : List (List Int)) (left : Int) (w : World) (hv : RdT w v xss) (h0 : 0 ≤ left) (h1 : left ≤ 1048576) :
    Calls Tryz.prog 9 #[v, .int .i64 left] w fun e w' => e = .returned (.int .i64 (szV (sizeT xss) left)) ∧ w = w' := by
  obtain ⟨o, c, rfl, hm, -⟩ := id hv
  unfold maxLen at hm
  by_cases hneg : left - xss.length < 0
  · go_enter Tryz.func9, Tryz.ntmps9
    go_wp2
    go_ret
    exact ⟨by unfold szV sizeT; rw [if_pos (by omega)]; rfl, rfl⟩
  · go_enter Tryz.func9, Tryz.ntmps9
    go_wp2_with fail
    go_loop [1, 5] (fun l i => ∃ k : Nat, k ≤ xss.length ∧ i = .int .i64 k ∧ l = .int .i64 (left - xss.length - numT (xss.take k)) ∧ 0 ≤ left - xss.length - numT (xss.take k)) (fun _ i => xss.length - (intOf i).toNat)
    case atStart => exact ⟨0, Nat.zero_le _, rfl, by simp [numT], by simp [numT]; omega⟩
    case round =>
      obtain ⟨k, hk, rfl, rfl, hl⟩ := hrel
      by_cases hlt : k < xss.length
      · obtain ⟨b, off, rfl, -⟩ := hv.rows (by omega)
        obtain ⟨o', c', hx, hr⟩ := hv.row (show xss[k]? = some xss[k] by simp [hlt])
        have hrl := hr.len
        have hnt := numT_take xss k hlt
        have hnl := numT_le xss (k + 1)
        have HNT := Lib.hid hnt
        clear hnt
        by_cases hneg2 : szV xss[k].length (left - xss.length - numT (xss.take k)) < 0
        · have HE := Lib.hid (show szV (sizeT xss) left = -1 by
            have := HNT.out
            unfold szV at hneg2 ⊢
            unfold sizeT
            rw [if_pos]
            split at hneg2 <;> omega)
          go_wp2_with (go_at_call 20; refine (szInt64S_c _ _ _ _ _ hrl.2.1 hl (by omega)).mono ?_; rintro e w' ⟨rfl, rfl⟩)
          go_ret
          exact ⟨by rw [HE.out]; rfl, rfl⟩
        · have HE := Lib.hid (show szV xss[k].length (left - xss.length - numT (xss.take k)) = left - xss.length - numT (xss.take (k + 1)) ∧ 0 ≤ left - xss.length - numT (xss.take (k + 1)) by
            have := HNT.out
            unfold szV at hneg2 ⊢
            split at hneg2
            · omega
            · rename_i h; rw [if_neg h]; omega)
          go_wp2_with (go_at_call 20; refine (szInt64S_c _ _ _ _ _ hrl.2.1 hl (by omega)).mono ?_; rintro e w' ⟨rfl, rfl⟩)
          exact ⟨⟨k + 1, by omega, by go_num, by rw [HE.out.1], HE.out.2⟩, by simp [intOf]; omega⟩
      · obtain rfl : k = xss.length := by omega
        have HE := Lib.hid (show szV (sizeT xss) left = left - xss.length - numT (xss.take xss.length) by
          rw [List.take_length] at hl ⊢; unfold szV sizeT; rw [if_neg (by omega)]; omega)
        go_wp2
        go_ret
        exact ⟨by rw [HE.out, List.take_length]; rfl, rfl⟩

theorem szT_ok {xss : List (List Int)} {left : Int} (h : 0 ≤ szV (sizeT xss) left) (hl : left ≤ 1048576) : sizeT xss ≤ 1048576 ∧ szV (sizeT xss) left ≤ 1048576 ∧ 0 ≤ szV (sizeT xss) left := szV_ok h hl

set_option maxHeartbeats 400000 in
theorem toInt64SS_c (v : Value) (xss : List (List Int)) (w : World) (hv : RdT w v xss) (hn : sizeT xss ≤ 1048576) :
    Calls Tryz.prog 15 #[v] w fun e w' => ∃ v', e = .returned v' ∧ OwS w' w.heap.size v' xss ∧ Below w.heap.size w w' := by
  obtain ⟨o, c, rfl, hm, -⟩ := id hv
  unfold maxLen at hm
  have hnl : xss.length ≤ 1048576 := by unfold sizeT at hn; omega
  go_enter Tryz.func15, Tryz.ntmps15
  go_wp2_with (at_make; refine mkT _ rfl _ _ rfl _ _ _ xss.length rfl rfl rfl hnl ?_; intro w1 hown hb hs1)
  rw [← uptoT_0] at hown
  have hz : w.heap.size < w1.heap.size := by omega
  clear hs1
  go_loopw [4] (fun i wr => ∃ k : Nat, k ≤ xss.length ∧ i = .int .i64 k ∧ OwS wr w.heap.size (.slice (some ⟨w.heap.size, 0, none⟩) xss.length xss.length) (uptoT xss k) ∧ Below w.heap.size w wr) (fun i _ => xss.length - (intOf i).toNat)
  case atStart => exact ⟨0, Nat.zero_le _, rfl, hown, hb⟩
  case round =>
    obtain ⟨k, hk, rfl, hO, hB⟩ := hrel
    by_cases hlt : k < xss.length
    · have hvr := hv.below hB (Nat.le_refl _)
      obtain ⟨b, off, rfl, -⟩ := hvr.rows (by omega)
      obtain ⟨o', c', hx, hr⟩ := hvr.row (show xss[k]? = some xss[k] by simp [hlt])
      have hrow := row_le hlt
      obtain ⟨g, hg0, hgl, hgl'⟩ := hO.row (by omega)
      obtain rfl : w.heap.size = g := by simpa using hg0
      clear hg0
      have hBs := hB.size
      go_wp2_with (go_at_call 29; refine (toInt64S_c _ _ _ hr (by unfold sizeT at hn; omega)).mono ?_; rintro e w2 ⟨u', rfl, hou, hb2⟩; obtain ⟨ou, cu, rfl⟩ := hou.shape; have hO2 := hO.below hb2; obtain ⟨o3, c3, hc0, -, -⟩ := hO2.get (k := k) (row := []) (uptoT_get xss k hlt); have hf0 := hO2.fz k; have hP := Lib.hid (hO.putNew' hgl' hb2 k hou hBs); clear hO2)
      have hP' := hP.out
      rw [uptoT_set _ _ hlt] at hP'
      exact ⟨⟨k + 1, by omega, by go_num, hP', below_put (hB.trans (hb2.mono hBs)) (Nat.le_refl _) _⟩, by simp [intOf]; omega⟩
    · obtain rfl : k = xss.length := by omega
      rw [uptoT_all] at hO
      go_wp2
      go_ret
      exact ⟨_, rfl, hO, hB⟩

set_option maxHeartbeats 1000000 in
theorem eqInt64SS_c (v u : Value) (xss yss : List (List Int)) (w : World) (hv : RdT w v xss) (hu : RdT w u yss) :
    Calls Tryz.prog 19 #[v, u] w fun e w' => e = .returned (.bool (eqTB xss yss)) ∧ ∃ n, w' = w.drewN n := by
  obtain ⟨o, c, rfl, hm, -⟩ := id hv
  obtain ⟨o', c', rfl, hm', -⟩ := id hu
  unfold maxLen at hm hm'
  by_cases hlen : xss.length = yss.length
  · have hne : (((xss.length:Nat):Int) != ((yss.length:Nat):Int)) = false := by simp [hlen]
    have HL := Lib.hid hlen
    clear hlen
    go_enter Tryz.func19, Tryz.ntmps19
    go_wp2
    go_loopw [5] (fun i wr => ∃ k : Nat, k ≤ xss.length ∧ i = .int .i64 k ∧ Hid (xss.take k = yss.take k) ∧ ∃ n, wr = w.drewN n) (fun i _ => xss.length - (intOf i).toNat)
    case atStart => exact ⟨0, Nat.zero_le _, rfl, Lib.hid rfl, 0, rfl⟩
    case round =>
      obtain ⟨k, hk, rfl, HT, n, rfl⟩ := hrel
      by_cases hlt : k < xss.length
      · have hly : k < yss.length := by have := HL.out; omega
        obtain ⟨b, off, rfl, -⟩ := hv.rows (by omega)
        obtain ⟨b', off', rfl, -⟩ := hu.rows (by omega)
        obtain ⟨o1, c1, hx, hr⟩ := hv.row (show xss[k]? = some xss[k] by simp [hlt])
        obtain ⟨o2, c2, hy, hs⟩ := hu.row (show yss[k]? = some yss[k] by simp [hly])
        cases he : eqLB xss[k] yss[k]
        · go_wp2
          go_quiet ((go_at_call 37; (first | exact quietA (by rw [he]) (eqInt64S_c _ _ xss[k] yss[k] _ hr hs) | exact quietB (by rw [he]) (eqInt64S_c _ _ xss[k] yss[k] _ hr hs) | exact quietC (by rw [he]) (eqInt64S_c _ _ xss[k] yss[k] _ hr hs) | exact quietD (by rw [he]) (eqInt64S_c _ _ xss[k] yss[k] _ hr hs))))
          go_wp2
          go_ret
          exact ⟨by rw [eqTB_idx (k := k) (by simp [hlt]) (by simp [hly]) he]; rfl, n + nq, by simp⟩
        · go_wp2
          go_quiet ((go_at_call 37; (first | exact quietA (by rw [he]) (eqInt64S_c _ _ xss[k] yss[k] _ hr hs) | exact quietB (by rw [he]) (eqInt64S_c _ _ xss[k] yss[k] _ hr hs) | exact quietC (by rw [he]) (eqInt64S_c _ _ xss[k] yss[k] _ hr hs) | exact quietD (by rw [he]) (eqInt64S_c _ _ xss[k] yss[k] _ hr hs))))
          go_wp2
          exact ⟨⟨k + 1, by omega, by go_num, Lib.hid (takeT_eq (by simp [hlt]) (by simp [hly]) he HT.out), _, rfl⟩, by simp [intOf]; omega⟩
      · go_wp2
        go_ret
        exact ⟨by rw [eqTB_take HL.out hlt HT.out]; rfl, n, rfl⟩
  · have hne : (((xss.length:Nat):Int) != ((yss.length:Nat):Int)) = true := by simp; omega
    have HL := Lib.hid hlen
    clear hlen
    go_enter Tryz.func19, Tryz.ntmps19
    go_wp2
    go_ret
    exact ⟨by rw [eqTB_ne (fun h => HL.out (by rw [h]))]; rfl, 0, rfl⟩

set_option maxHeartbeats 400000 in
theorem szPlane_c (m : Int) (v : Value) (xss : List (List Int)) (left : Int) (w : World) (hv : RdT w v xss) (h0 : 0 ≤ left) (h1 : left ≤ 1048576) :
    Calls Tryz.prog 4 #[.agg #[.int .i64 m, v], .int .i64 left] w fun e w' => e = .returned (.int .i64 (szV (sizeT xss) left)) ∧ Below w.heap.size w w' := by
  by_cases hneg : szV (sizeT xss) left < 0
  · have e1 : szV (sizeT xss) left = -1 := by unfold szV at hneg ⊢; split <;> simp_all
    have H1 := Lib.hid e1
    clear e1
    go_enter Tryz.func4, Tryz.ntmps4
    go_wp2_with (go_at_call 9; refine (szInt64SS_c _ xss _ _ (hv.below (by (repeat (first | exact bR _ _ | (refine bS ?_ _) | (refine bA ?_ _) | (refine bN ?_ _) | (refine bD ?_)))) (Nat.le_refl _)) h0 h1).mono ?_; rintro e w' ⟨rfl, rfl⟩)
    go_ret
    exact ⟨by rw [H1.out]; rfl, ((Below.refl _ _).alloc (Nat.le_refl _) _)⟩
  · go_enter Tryz.func4, Tryz.ntmps4
    go_wp2_with (go_at_call 9; refine (szInt64SS_c _ xss _ _ (hv.below (by (repeat (first | exact bR _ _ | (refine bS ?_ _) | (refine bA ?_ _) | (refine bN ?_ _) | (refine bD ?_)))) (Nat.le_refl _)) h0 h1).mono ?_; rintro e w' ⟨rfl, rfl⟩)
    go_ret
    exact ⟨rfl, ((Below.refl _ _).alloc (Nat.le_refl _) _)⟩

set_option maxHeartbeats 400000 in
theorem toPlane_c (m : Int) (v : Value) (xss : List (List Int)) (w : World) (hv : RdT w v xss) (hn : sizeT xss ≤ 1048576) :
    Calls Tryz.prog 6 #[.agg #[.int .i64 m, v]] w fun e w' => ∃ v', e = .returned (.agg #[.int .i64 m, v']) ∧ OwS w' w.heap.size v' xss ∧ Below w.heap.size w w' := by
  go_enter Tryz.func6, Tryz.ntmps6
  go_wp2_with fail
  refine (toInt64SS_c v xss _ (hv.below ((((Below.refl _ _).alloc (Nat.le_refl _) _).alloc (by simp) _).alloc (by simp; omega) _) (Nat.le_refl _)) hn).mono ?_
  rintro e w1 ⟨v', rfl, how, hb⟩
  obtain ⟨o1, c1, rfl⟩ := how.shape
  have How := Lib.hid how
  clear how
  obtain ⟨hc, hf⟩ := bcell hb
  have hz : w.heap.size + 2 < w1.heap.size := by have := hb.size; simp at this; omega
  go_wp2
  refine bodyPost_ret (v := .agg #[.int .i64 m, .slice o1 xss.length c1]) (by simp [results, Tryz.results6, go_sem, hc, hz]) rfl ⟨_, rfl, ?_, ?_⟩
  · exact ((((How.out.low (by first | (simp; done) | (simp; omega) | omega) _).low (by first | (simp; done) | (simp; omega) | omega) _).low (by first | (simp; done) | (simp; omega) | omega) _).mono (by first | (simp; done) | (simp; omega) | omega))
  · (repeat (first | exact bR _ _ | (refine bS ?_ _) | (refine bA ?_ _) | (refine bN ?_ _) | (refine bD ?_) | (refine bT ?_ hb)))

def eqPB (m : Int) (xss : List (List Int)) (n : Int) (yss : List (List Int)) : Bool := (m == n) && eqTB xss yss
theorem eqPB_self (m : Int) (xss : List (List Int)) : eqPB m xss m xss = true := by simp [eqPB, eqTB_self]

set_option maxHeartbeats 400000 in
theorem eqPlane_c (m n : Int) (v u : Value) (xss yss : List (List Int)) (w : World) (hv : RdT w v xss) (hu : RdT w u yss) :
    Calls Tryz.prog 8 #[.agg #[.int .i64 m, v], .agg #[.int .i64 n, u]] w fun e w' => e = .returned (.bool (eqPB m xss n yss)) ∧ Below w.heap.size w w' := by
  cases h2 : (m != n)
  · have e2 : (m == n) = true := by simpa using h2
    cases h3 : eqTB xss yss
    all_goals
      go_enter Tryz.func8, Tryz.ntmps8
      go_wp2_with (go_at_call 19; refine (eqInt64SS_c _ _ xss yss _ (hv.below ((by (repeat (first | exact bR _ _ | (refine bS ?_ _) | (refine bA ?_ _) | (refine bN ?_ _) | (refine bD ?_))))) (Nat.le_refl _)) (hu.below ((by (repeat (first | exact bR _ _ | (refine bS ?_ _) | (refine bA ?_ _) | (refine bN ?_ _) | (refine bD ?_))))) (Nat.le_refl _))).mono ?_; rintro e w1 ⟨rfl, d, rfl⟩; rw [h3])
      go_ret
      exact ⟨by simp [eqPB, e2, h3], (by (repeat (first | exact bR _ _ | (refine bS ?_ _) | (refine bA ?_ _) | (refine bN ?_ _) | (refine bD ?_))))⟩
  · have e2 : (m == n) = false := by simpa using h2
    go_enter Tryz.func8, Tryz.ntmps8
    go_wp2
    go_ret
    exact ⟨by simp [eqPB, e2], (by (repeat (first | exact bR _ _ | (refine bS ?_ _) | (refine bA ?_ _) | (refine bN ?_ _) | (refine bD ?_))))⟩

end Go.Proofs.YteijannfbafdpaaGreatDoor

/- Readings that live on while nothing is written in a part of the heap. -/
set_option linter.unusedSimpArgs false
set_option linter.unusedVariables false
namespace Go.Proofs.YteijannfbafdpaaGreatDoor
open Go.RowKit

def Rds (lo hi : Nat) (w : World) (R : World → Prop) : Prop := hi ≤ w.heap.size ∧ ∀ u : World, (∀ k, lo ≤ k → k < hi → u.heap[k]? = w.heap[k]?) → R u
theorem Rds.now {lo hi : Nat} {w : World} {R : World → Prop} (h : Rds lo hi w R) : R w := h.2 w (fun _ _ _ => rfl)
theorem Rds.grown {lo hi : Nat} {w w' : World} {R : World → Prop} {r : Option Nat} (h : Rds lo hi w R) (hg : w.grownBy w' r) (hr : ∀ b, r = some b → b < lo ∨ hi ≤ b) : Rds lo hi w' R :=
  ⟨Nat.le_trans h.1 hg.size, fun u hu => h.2 u (fun k h1 h2 => (hu k h1 h2).trans (hg.block k (Nat.lt_of_lt_of_le h2 h.1) (fun e => by have := hr k e.symm; omega)))⟩
theorem Rds.below {lo hi : Nat} {w w' : World} {R : World → Prop} (h : Rds lo hi w R) (hb : Below w.heap.size w w') : Rds lo hi w' R :=
  ⟨Nat.le_trans h.1 hb.size, fun u hu => h.2 u (fun k h1 h2 => (hu k h1 h2).trans (hb.block k (Nat.lt_of_lt_of_le h2 h.1)))⟩
theorem Rds.belowB {lo hi B : Nat} {w w' : World} {R : World → Prop} (h : Rds lo hi w R) (hb : Below B w w') (hB : hi ≤ B) : Rds lo hi w' R :=
  ⟨Nat.le_trans h.1 hb.size, fun u hu => h.2 u (fun k h1 h2 => (hu k h1 h2).trans (hb.block k (by omega)))⟩
theorem Rds.put {lo hi : Nat} {w : World} {R : World → Prop} (h : Rds lo hi w R) {b : Nat} (hb : b < lo ∨ hi ≤ b) (k : Nat) (u : Value) : Rds lo hi (w.setCell ⟨b, k, none⟩ u) R :=
  h.grown (grown_put w b k u) (fun j hj => by cases hj; exact hb)
theorem OwI.rds {w : World} {B : Nat} {v : Value} {xs : List Int} (h : OwI w B v xs) (hB : B ≤ w.heap.size) : Rds B w.heap.size w (fun u => RdI u v xs) :=
  ⟨Nat.le_refl _, fun u hu => ((Lives.owI h hB).stay w u hu h).rd⟩
theorem RdI.rds {w : World} {v : Value} {xs : List Int} (h : RdI w v xs) : Rds 0 w.heap.size w (fun u => RdI u v xs) :=
  ⟨Nat.le_refl _, fun u hu => (Lives.rdI h).stay w u hu h⟩
end Go.Proofs.YteijannfbafdpaaGreatDoor

/- Words of memory for lists of series and lists of planes, all of one modulus. -/
set_option linter.unusedSimpArgs false
set_option linter.unusedVariables false
namespace Go.Proofs.YteijannfbafdpaaGreatDoor
open Go.RowKit

def pairsV (m : Int) (us : List Value) : List Value := us.flatMap (fun u => [.int .i64 m, u])
theorem pairsV_0 (m : Int) (us : List Value) (k : Nat) (h : k < us.length) : (pairsV m us)[k * 2]? = some (.int .i64 m) := by
  induction us generalizing k with
  | nil => simp at h
  | cons u us ih =>
    cases k with
    | zero => rfl
    | succ k =>
      rw [show (k + 1) * 2 = k * 2 + 1 + 1 by omega]
      exact ih k (by simpa using h)
theorem pairsV_1 (m : Int) (us : List Value) (k : Nat) : (pairsV m us)[k * 2 + 1]? = us[k]? := by
  induction us generalizing k with
  | nil => rfl
  | cons u us ih =>
    cases k with
    | zero => rfl
    | succ k =>
      rw [show (k + 1) * 2 + 1 = k * 2 + 1 + 1 + 1 by omega]
      exact ih k
theorem pairsV_app (m : Int) (us : List Value) (u : Value) : pairsV m (us ++ [u]) = pairsV m us ++ [.int .i64 m, u] := by simp [pairsV]

theorem Lives.grown {lo hi : Nat} {w w' : World} {F : World → Prop} {r : Option Nat} (h : Lives lo hi w F) (hg : w.grownBy w' r) (hr : ∀ b, r = some b → b < lo ∨ hi ≤ b) : Lives lo hi w' F :=
  ⟨h.stay w w' (fun k h1 h2 => hg.block k (Nat.lt_of_lt_of_le h2 h.le) (fun e => by have := hr k e.symm; omega)) h.now, Nat.le_trans h.le hg.size, h.stay⟩
theorem OwS.rds {w : World} {B : Nat} {v : Value} {xs : List (List Int)} (h : OwS w B v xs) : Rds B w.heap.size w (fun u => RdT u v xs) :=
  ⟨Nat.le_refl _, fun u hu => (h.toR.stay hu).rd⟩

def RdLS (w : World) (v : Value) (m : Int) (xss : List (List Int)) : Prop :=
  ∃ o c, v = .slice o xss.length c ∧ (xss.length ≤ maxLen ∧ xss.length ≤ c ∧ (o = none → c = 0)) ∧
    (∀ (k : Nat) (row : (List Int)), xss[k]? = some row → ∃ b off u, o = some ⟨b, off, none⟩ ∧ w.cell? ⟨b, off + k * 2, none⟩ = some (.int .i64 m) ∧ w.cell? ⟨b, off + k * 2 + 1, none⟩ = some u ∧ RdI w u row)
theorem RdLS.below {B : Nat} {w w' : World} {v : Value} {m : Int} {xss : List (List Int)} (h : RdLS w v m xss) (hb : Below B w w') (hB : w.heap.size ≤ B) : RdLS w' v m xss := by
  obtain ⟨o, c, rfl, hm, hc⟩ := h
  refine ⟨o, c, rfl, hm, fun k row hx => ?_⟩
  obtain ⟨b, off, u, ho, h0, h1, hr⟩ := hc k row hx
  exact ⟨b, off, u, ho, keep_cell hb hB h0, keep_cell hb hB h1, hr.below hb hB⟩
theorem RdLS.len {w : World} {o : Option Addr} {n c : Nat} {m : Int} {xss : List (List Int)} (h : RdLS w (.slice o n c) m xss) : n = xss.length ∧ xss.length ≤ maxLen ∧ xss.length ≤ c := by
  obtain ⟨o', c', heq, hm, hc⟩ := h
  obtain ⟨rfl, rfl, rfl⟩ : o = o' ∧ n = xss.length ∧ c = c' := by simpa using heq
  exact ⟨rfl, hm.1, hm.2.1⟩
theorem RdLS.base {w : World} {o : Option Addr} {n c : Nat} {m : Int} {xss : List (List Int)} (h : RdLS w (.slice o n c) m xss) (hx : 1 ≤ xss.length) : ∃ b off, o = some ⟨b, off, none⟩ := by
  obtain ⟨o', c', heq, hm, hc⟩ := h
  obtain ⟨rfl, rfl, rfl⟩ : o = o' ∧ n = xss.length ∧ c = c' := by simpa using heq
  obtain ⟨b, off, u, ho, -⟩ := hc 0 xss[0] (by simp)
  exact ⟨b, off, ho⟩
theorem RdLS.at {w : World} {b off n c : Nat} {m : Int} {xss : List (List Int)} (h : RdLS w (.slice (some ⟨b, off, none⟩) n c) m xss) {k : Nat} {row : (List Int)} (hx : xss[k]? = some row) :
    ∃ o c, w.cell? ⟨b, off + k * 2, none⟩ = some (.int .i64 m) ∧ w.cell? ⟨b, off + k * 2 + 1, none⟩ = some (.slice o row.length c) ∧ RdI w (.slice o row.length c) row := by
  obtain ⟨o', c', heq, hm, hc⟩ := h
  obtain ⟨rfl, -, -⟩ : some ⟨b, off, none⟩ = o' ∧ n = xss.length ∧ c = c' := by simpa using heq
  obtain ⟨b', off', u, ho, h0, h1, h2⟩ := hc k row hx
  obtain ⟨rfl, rfl⟩ : b = b' ∧ off = off' := by simpa using ho
  obtain ⟨o, c, rfl, -, -⟩ := id h2
  exact ⟨o, c, h0, h1, h2⟩

def OwLS (w : World) (B : Nat) (v : Value) (m : Int) (xss : List (List Int)) : Prop :=
  ∃ us : List Value, us.length = xss.length ∧ w.ownsRow B 57 2 v xss.length (pairsV m us) ∧
    (∀ (k : Nat) (u : Value) (row : (List Int)), us[k]? = some u → xss[k]? = some row → ∃ lo hi, B ≤ lo ∧ Rds lo hi w (fun x => RdI x u row) ∧ ∀ b : Nat, v.ownBlock = some b → b < lo ∨ hi ≤ b)
theorem OwLS.shape {w : World} {B : Nat} {v : Value} {m : Int} {xss : List (List Int)} (h : OwLS w B v m xss) : ∃ o c, v = .slice o xss.length c := by
  obtain ⟨us, hl, ⟨_, hr⟩, -⟩ := h
  rcases hr with ⟨rfl, h0⟩ | ⟨g, cap, cur, rfl, -⟩
  · exact ⟨none, 0, by rw [h0]⟩
  · exact ⟨_, _, rfl⟩
theorem OwLS.shapeN {w : World} {B n : Nat} {v : Value} {m : Int} {xss : List (List Int)} (h : OwLS w B v m xss) (hl : xss.length = n) : ∃ o c, v = .slice o n c := by
  obtain ⟨o, c, rfl⟩ := h.shape; exact ⟨o, c, by rw [hl]⟩
theorem OwLS.mono {w : World} {B B' : Nat} {v : Value} {m : Int} {xss : List (List Int)} (h : OwLS w B v m xss) (hB : B' ≤ B) : OwLS w B' v m xss := by
  obtain ⟨us, hl, hr, h1⟩ := h
  refine ⟨us, hl, ⟨hr.1, ?_⟩, fun k u row hu hx => ?_⟩
  rcases hr.2 with h | ⟨g, cap, cur, hv, hg, r⟩
  · exact .inl h
  · exact .inr ⟨g, cap, cur, hv, by omega, r⟩
  obtain ⟨lo, hi, h0, h2, h3⟩ := h1 k u row hu hx
  exact ⟨lo, hi, by omega, h2, h3⟩
theorem OwLS.lt {w : World} {B : Nat} {v : Value} {m : Int} {xss : List (List Int)} (h : OwLS w B v m xss) : ∀ k, v.ownBlock = some k → B ≤ k ∧ k < w.heap.size := by
  obtain ⟨us, hl, hr, -⟩ := h; exact hr.lt
theorem OwLS.below {w w' : World} {B : Nat} {v : Value} {m : Int} {xss : List (List Int)} (h : OwLS w B v m xss) (hb : Below w.heap.size w w') : OwLS w' B v m xss := by
  obtain ⟨us, hl, hr, h1⟩ := h
  refine ⟨us, hl, hr.kept (row := none) ⟨hb.os, hb.tape, hb.output, hb.size, fun k hk _ => hb.block k hk⟩ (by cases e : v.ownBlock <;> simp), fun k u row hu hx => ?_⟩
  obtain ⟨lo, hi, h0, h2, h3⟩ := h1 k u row hu hx
  exact ⟨lo, hi, h0, h2.below hb, h3⟩
theorem OwLS.rd {w : World} {B : Nat} {v : Value} {m : Int} {xss : List (List Int)} (h : OwLS w B v m xss) : RdLS w v m xss := by
  obtain ⟨us, hl, hr, h1⟩ := h
  rcases id hr.2 with ⟨rfl, h0⟩ | ⟨g, cap, cur, rfl, hg, hh, hn, hcm, hcs, ht⟩
  · have : xss = [] := List.eq_nil_of_length_eq_zero h0
    subst this
    exact ⟨none, 0, rfl, ⟨Nat.zero_le _, Nat.zero_le _, fun _ => rfl⟩, fun k row hx => by simp at hx⟩
  · refine ⟨_, _, rfl, ⟨by omega, hn, fun h => by cases h⟩, fun k row hx => ?_⟩
    have hk : k < xss.length := (List.getElem?_eq_some_iff.1 hx).1
    have hu : us[k]? = some us[k] := by simp [hl, hk]
    obtain ⟨lo, hi, -, h2, -⟩ := h1 k _ row hu hx
    refine ⟨g, 0, us[k], rfl, ?_, ?_, h2.now⟩
    · rw [Nat.zero_add, World.ownsRow.cellAt hr (k * 2) (by omega)]; exact pairsV_0 m us k (by omega)
    · rw [Nat.zero_add, World.ownsRow.cellAt hr (k * 2 + 1) (by omega), pairsV_1]; exact hu
theorem OwLS.rds {w : World} {B : Nat} {v : Value} {m : Int} {xss : List (List Int)} (h : OwLS w B v m xss) : Rds B w.heap.size w (fun x => RdLS x v m xss) := by
  refine ⟨Nat.le_refl _, fun u hk => ?_⟩
  obtain ⟨us, hl, hr, h1⟩ := h
  refine OwLS.rd (B := B) ⟨us, hl, ⟨hr.1, ?_⟩, fun k z row hu hx => ?_⟩
  · rcases hr.2 with h | ⟨g, cap, cur, hv, hg, hh, r⟩
    · exact .inl h
    · have hlt : g < w.heap.size := (Array.getElem?_eq_some_iff.1 hh).1
      exact .inr ⟨g, cap, cur, hv, hg, by rw [hk g hg hlt]; exact hh, r⟩
  · obtain ⟨lo, hi, h0, h2, h3⟩ := h1 k z row hu hx
    have hsz : hi ≤ u.heap.size ∨ hi ≤ lo := by
      by_cases e : lo < hi
      · left
        have h4 := h2.1
        have h5 := hk (hi - 1) (by omega) (by omega)
        have h6 : hi - 1 < w.heap.size := by omega
        rw [Array.getElem?_eq_getElem h6] at h5
        have := (Array.getElem?_eq_some_iff.1 h5).1
        omega
      · right; omega
    rcases hsz with hsz | hsz
    · exact ⟨lo, hi, h0, ⟨hsz, fun x hx' => h2.2 x (fun k' a b => (hx' k' a b).trans (hk k' (by omega) (by have := h2.1; omega)))⟩, h3⟩
    · exact ⟨B, B, Nat.le_refl _, ⟨by
        rcases hr.2 with ⟨hv, h0⟩ | ⟨g, cap, cur, hv, hg, hh, r⟩
        · have : k < xss.length := (List.getElem?_eq_some_iff.1 hx).1
          omega
        · have hlt : g < w.heap.size := (Array.getElem?_eq_some_iff.1 hh).1
          have h5 := hk g hg hlt
          rw [hh] at h5
          have := (Array.getElem?_eq_some_iff.1 h5).1
          omega, fun x _ => h2.2 x (fun k' a b => by omega)⟩, fun b _ => by omega⟩
theorem info_S : (Tryz.prog.info? 57).map (fun i => (i.zero, i.size, i.bytes)) = some (some (.agg #[.int .i64 0, .slice none 0 0]), 2, 32) := by kernel_rfl

section
variable {ops : Array Oper} {rest : List Oper} {o : Oper} {a : Act} {Q : Exit → Act → World → Prop}
theorem wpApLS {K : Act → World → Prop} (W : World) (s x : Operand) (hop : o.op = .call { callee := .builtin .append, args := #[s, x], argTypes := #[95, 95] })
    (B : Nat) (v : Value) (m : Int) (xss : List (List Int)) (hs : a.eval s = v) (hown : OwLS W B v m xss) (hB : B ≤ W.heap.size) (u : Value) (row : (List Int)) (k : Nat) (hx : a.eval x = .slice (some ⟨k, 0, none⟩) 1 1)
    (hc0 : W.cell? ⟨k, 0, none⟩ = some (.int .i64 m)) (hc1 : W.cell? ⟨k, 1, none⟩ = some u) (hone : u.oneCell' = true) (hu : ∃ lo hi, B ≤ lo ∧ Rds lo hi W (fun x => RdI x u row) ∧ ∀ b : Nat, v.ownBlock = some b → b < lo ∨ hi ≤ b) (hn : xss.length < 1048576)
    (hK : ∀ g cap w', OwLS w' B (.slice (some ⟨g, 0, none⟩) (xss.length + 1) cap) m (xss ++ [row]) → W.grownBy w' v.ownBlock → Below B W w' → K (a.put o.dst (.slice (some ⟨g, 0, none⟩) (xss.length + 1) cap)) w') :
    Oper.wp Tryz.prog o a W K Q := by
  obtain ⟨i0, hi, hz0, hz1, hz2⟩ := info_parts info_S
  obtain ⟨us, hl, hr, h1⟩ := hown
  refine wp_append_lies W s x 95 hop B 57 i0 (.agg #[.int .i64 0, .slice none 0 0]) 2 32 Tryz.underlying95 hi hz0 hz1 hz2 rfl (by decide) v xss.length (pairsV m us) hs hr ⟨k, 0, none⟩ 1 1 [.int .i64 m, u] hx rfl (fun j u' hj => ?_) (fun u' hu' => ?_) (by decide) (by unfold maxLen; omega) (by omega) hB W.heap.size rfl ?_
  · match j with
    | 0 => simp at hj; subst hj; simpa [Addr.add] using hc0
    | 1 => simp at hj; subst hj; simpa [Addr.add] using hc1
    | j + 2 => simp at hj
  · simp at hu'; rcases hu' with rfl | rfl
    · rfl
    · exact hone
  · intro g cap w' hown' hgrow hlies hglt
    have hgb : Below B W w' := Below.grown (Below.refl B W) hgrow hB (fun b hb => (hr.lt b hb).1)
    have hg2 : ∀ lo hi, hi ≤ W.heap.size → (∀ b : Nat, v.ownBlock = some b → b < lo ∨ hi ≤ b) → ∀ b : Nat, (Value.slice (some ⟨g, 0, none⟩) (xss.length + 1) cap).ownBlock = some b → b < lo ∨ hi ≤ b := by
      intro lo hi hh hv b hb
      simp only [Value.ownBlock, Option.some.injEq] at hb
      subst hb
      rcases hlies with h | rfl
      · exact hv _ h
      · exact .inr hh
    refine hK g cap w' ⟨us ++ [u], by simp [hl], by rw [List.length_append, pairsV_app]; exact hown', fun i u' r hi' hxi => ?_⟩ hgrow hgb
    rw [List.getElem?_append] at hi' hxi
    by_cases hil : i < us.length
    · rw [if_pos hil] at hi'
      rw [if_pos (by omega)] at hxi
      obtain ⟨lo, hi, h0, h2, h3⟩ := h1 i u' r hi' hxi
      exact ⟨lo, hi, h0, h2.grown hgrow h3, hg2 lo hi h2.1 h3⟩
    · rw [if_neg hil] at hi'
      rw [if_neg (by omega)] at hxi
      have e1 : i - us.length = 0 := by
        have := (List.getElem?_eq_some_iff.1 hi').1; simp at this; omega
      rw [show i - xss.length = 0 by omega] at hxi
      rw [e1] at hi'
      simp at hi' hxi
      subst hi' hxi
      obtain ⟨lo, hi, h0, h2, h3⟩ := hu
      exact ⟨lo, hi, h0, h2.grown hgrow h3, hg2 lo hi h2.1 h3⟩
theorem stLS {K : Act → World → Prop} {E : Prop} (W : World) (hg : o.guard = none) (s x : Operand) (hop : o.op = .call { callee := .builtin .append, args := #[s, x], argTypes := #[95, 95] })
    (B : Nat) (v : Value) (m : Int) (xss : List (List Int)) (hs : a.eval s = v) (hown : OwLS W B v m xss) (hB : B ≤ W.heap.size) (u : Value) (row : (List Int)) (k : Nat) (hx : a.eval x = .slice (some ⟨k, 0, none⟩) 1 1)
    (hc0 : W.cell? ⟨k, 0, none⟩ = some (.int .i64 m)) (hc1 : W.cell? ⟨k, 1, none⟩ = some u) (hone : u.oneCell' = true) (hu : ∃ lo hi, B ≤ lo ∧ Rds lo hi W (fun x => RdI x u row) ∧ ∀ b : Nat, v.ownBlock = some b → b < lo ∨ hi ≤ b) (hn : xss.length < 1048576)
    (hK : ∀ g cap w', OwLS w' B (.slice (some ⟨g, 0, none⟩) (xss.length + 1) cap) m (xss ++ [row]) → W.grownBy w' v.ownBlock → Below B W w' → K (a.put o.dst (.slice (some ⟨g, 0, none⟩) (xss.length + 1) cap)) w') :
    if Region.wanted o (yielded ops a.tmps) = true then Oper.wp Tryz.prog o a W K Q else E := by
  have hw : Region.wanted o (yielded ops a.tmps) = true := by simp [Region.wanted, hg]
  rw [if_pos hw]
  exact wpApLS W s x hop B v m xss hs hown hB u row k hx hc0 hc1 hone hu hn hK
end
theorem OwLS.lit1 (w : World) (m : Int) (u : Value) (row : (List Int)) {lo hi : Nat} (hu : Rds lo hi w (fun x => RdI x u row)) (hB : lo ≤ w.heap.size) : OwLS (w.alloc (.cells #[.int .i64 m, u] 57)) lo (.slice (some ⟨w.heap.size, 0, none⟩) 1 1) m [row] := by
  have hr := World.ownsRow_lit (base := lo) (e := 57) (size := 2) w #[.int .i64 m, u] 1 hB (by unfold maxLen; omega) rfl
  refine ⟨[u], rfl, hr, fun k u' r hk hx => ?_⟩
  have : k = 0 := by have := (List.getElem?_eq_some_iff.1 hk).1; simp at this; omega
  subst this
  simp at hk hx
  subst hk hx
  refine ⟨lo, hi, Nat.le_refl _, hu.grown (World.grownBy_alloc w _ none) (fun b hb => by cases hb), fun b hb => ?_⟩
  simp only [Value.ownBlock, Option.some.injEq] at hb
  subst hb
  exact .inr hu.1
def RdLP (w : World) (v : Value) (m : Int) (xss : List (List (List Int))) : Prop :=
  ∃ o c, v = .slice o xss.length c ∧ (xss.length ≤ maxLen ∧ xss.length ≤ c ∧ (o = none → c = 0)) ∧
    (∀ (k : Nat) (row : (List (List Int))), xss[k]? = some row → ∃ b off u, o = some ⟨b, off, none⟩ ∧ w.cell? ⟨b, off + k * 2, none⟩ = some (.int .i64 m) ∧ w.cell? ⟨b, off + k * 2 + 1, none⟩ = some u ∧ RdT w u row)
theorem RdLP.below {B : Nat} {w w' : World} {v : Value} {m : Int} {xss : List (List (List Int))} (h : RdLP w v m xss) (hb : Below B w w') (hB : w.heap.size ≤ B) : RdLP w' v m xss := by
  obtain ⟨o, c, rfl, hm, hc⟩ := h
  refine ⟨o, c, rfl, hm, fun k row hx => ?_⟩
  obtain ⟨b, off, u, ho, h0, h1, hr⟩ := hc k row hx
  exact ⟨b, off, u, ho, keep_cell hb hB h0, keep_cell hb hB h1, hr.below hb hB⟩
theorem RdLP.len {w : World} {o : Option Addr} {n c : Nat} {m : Int} {xss : List (List (List Int))} (h : RdLP w (.slice o n c) m xss) : n = xss.length ∧ xss.length ≤ maxLen ∧ xss.length ≤ c := by
  obtain ⟨o', c', heq, hm, hc⟩ := h
  obtain ⟨rfl, rfl, rfl⟩ : o = o' ∧ n = xss.length ∧ c = c' := by simpa using heq
  exact ⟨rfl, hm.1, hm.2.1⟩
theorem RdLP.base {w : World} {o : Option Addr} {n c : Nat} {m : Int} {xss : List (List (List Int))} (h : RdLP w (.slice o n c) m xss) (hx : 1 ≤ xss.length) : ∃ b off, o = some ⟨b, off, none⟩ := by
  obtain ⟨o', c', heq, hm, hc⟩ := h
  obtain ⟨rfl, rfl, rfl⟩ : o = o' ∧ n = xss.length ∧ c = c' := by simpa using heq
  obtain ⟨b, off, u, ho, -⟩ := hc 0 xss[0] (by simp)
  exact ⟨b, off, ho⟩
theorem RdLP.at {w : World} {b off n c : Nat} {m : Int} {xss : List (List (List Int))} (h : RdLP w (.slice (some ⟨b, off, none⟩) n c) m xss) {k : Nat} {row : (List (List Int))} (hx : xss[k]? = some row) :
    ∃ o c, w.cell? ⟨b, off + k * 2, none⟩ = some (.int .i64 m) ∧ w.cell? ⟨b, off + k * 2 + 1, none⟩ = some (.slice o row.length c) ∧ RdT w (.slice o row.length c) row := by
  obtain ⟨o', c', heq, hm, hc⟩ := h
  obtain ⟨rfl, -, -⟩ : some ⟨b, off, none⟩ = o' ∧ n = xss.length ∧ c = c' := by simpa using heq
  obtain ⟨b', off', u, ho, h0, h1, h2⟩ := hc k row hx
  obtain ⟨rfl, rfl⟩ : b = b' ∧ off = off' := by simpa using ho
  obtain ⟨o, c, rfl, -, -⟩ := id h2
  exact ⟨o, c, h0, h1, h2⟩

def OwLP (w : World) (B : Nat) (v : Value) (m : Int) (xss : List (List (List Int))) : Prop :=
  ∃ us : List Value, us.length = xss.length ∧ w.ownsRow B 28 2 v xss.length (pairsV m us) ∧
    (∀ (k : Nat) (u : Value) (row : (List (List Int))), us[k]? = some u → xss[k]? = some row → ∃ lo hi, B ≤ lo ∧ Rds lo hi w (fun x => RdT x u row) ∧ ∀ b : Nat, v.ownBlock = some b → b < lo ∨ hi ≤ b)
theorem OwLP.shape {w : World} {B : Nat} {v : Value} {m : Int} {xss : List (List (List Int))} (h : OwLP w B v m xss) : ∃ o c, v = .slice o xss.length c := by
  obtain ⟨us, hl, ⟨_, hr⟩, -⟩ := h
  rcases hr with ⟨rfl, h0⟩ | ⟨g, cap, cur, rfl, -⟩
  · exact ⟨none, 0, by rw [h0]⟩
  · exact ⟨_, _, rfl⟩
theorem OwLP.shapeN {w : World} {B n : Nat} {v : Value} {m : Int} {xss : List (List (List Int))} (h : OwLP w B v m xss) (hl : xss.length = n) : ∃ o c, v = .slice o n c := by
  obtain ⟨o, c, rfl⟩ := h.shape; exact ⟨o, c, by rw [hl]⟩
theorem OwLP.mono {w : World} {B B' : Nat} {v : Value} {m : Int} {xss : List (List (List Int))} (h : OwLP w B v m xss) (hB : B' ≤ B) : OwLP w B' v m xss := by
  obtain ⟨us, hl, hr, h1⟩ := h
  refine ⟨us, hl, ⟨hr.1, ?_⟩, fun k u row hu hx => ?_⟩
  rcases hr.2 with h | ⟨g, cap, cur, hv, hg, r⟩
  · exact .inl h
  · exact .inr ⟨g, cap, cur, hv, by omega, r⟩
  obtain ⟨lo, hi, h0, h2, h3⟩ := h1 k u row hu hx
  exact ⟨lo, hi, by omega, h2, h3⟩
theorem OwLP.lt {w : World} {B : Nat} {v : Value} {m : Int} {xss : List (List (List Int))} (h : OwLP w B v m xss) : ∀ k, v.ownBlock = some k → B ≤ k ∧ k < w.heap.size := by
  obtain ⟨us, hl, hr, -⟩ := h; exact hr.lt
theorem OwLP.below {w w' : World} {B : Nat} {v : Value} {m : Int} {xss : List (List (List Int))} (h : OwLP w B v m xss) (hb : Below w.heap.size w w') : OwLP w' B v m xss := by
  obtain ⟨us, hl, hr, h1⟩ := h
  refine ⟨us, hl, hr.kept (row := none) ⟨hb.os, hb.tape, hb.output, hb.size, fun k hk _ => hb.block k hk⟩ (by cases e : v.ownBlock <;> simp), fun k u row hu hx => ?_⟩
  obtain ⟨lo, hi, h0, h2, h3⟩ := h1 k u row hu hx
  exact ⟨lo, hi, h0, h2.below hb, h3⟩
theorem OwLP.rd {w : World} {B : Nat} {v : Value} {m : Int} {xss : List (List (List Int))} (h : OwLP w B v m xss) : RdLP w v m xss := by
  obtain ⟨us, hl, hr, h1⟩ := h
  rcases id hr.2 with ⟨rfl, h0⟩ | ⟨g, cap, cur, rfl, hg, hh, hn, hcm, hcs, ht⟩
  · have : xss = [] := List.eq_nil_of_length_eq_zero h0
    subst this
    exact ⟨none, 0, rfl, ⟨Nat.zero_le _, Nat.zero_le _, fun _ => rfl⟩, fun k row hx => by simp at hx⟩
  · refine ⟨_, _, rfl, ⟨by omega, hn, fun h => by cases h⟩, fun k row hx => ?_⟩
    have hk : k < xss.length := (List.getElem?_eq_some_iff.1 hx).1
    have hu : us[k]? = some us[k] := by simp [hl, hk]
    obtain ⟨lo, hi, -, h2, -⟩ := h1 k _ row hu hx
    refine ⟨g, 0, us[k], rfl, ?_, ?_, h2.now⟩
    · rw [Nat.zero_add, World.ownsRow.cellAt hr (k * 2) (by omega)]; exact pairsV_0 m us k (by omega)
    · rw [Nat.zero_add, World.ownsRow.cellAt hr (k * 2 + 1) (by omega), pairsV_1]; exact hu
theorem OwLP.rds {w : World} {B : Nat} {v : Value} {m : Int} {xss : List (List (List Int))} (h : OwLP w B v m xss) : Rds B w.heap.size w (fun x => RdLP x v m xss) := by
  refine ⟨Nat.le_refl _, fun u hk => ?_⟩
  obtain ⟨us, hl, hr, h1⟩ := h
  refine OwLP.rd (B := B) ⟨us, hl, ⟨hr.1, ?_⟩, fun k z row hu hx => ?_⟩
  · rcases hr.2 with h | ⟨g, cap, cur, hv, hg, hh, r⟩
    · exact .inl h
    · have hlt : g < w.heap.size := (Array.getElem?_eq_some_iff.1 hh).1
      exact .inr ⟨g, cap, cur, hv, hg, by rw [hk g hg hlt]; exact hh, r⟩
  · obtain ⟨lo, hi, h0, h2, h3⟩ := h1 k z row hu hx
    have hsz : hi ≤ u.heap.size ∨ hi ≤ lo := by
      by_cases e : lo < hi
      · left
        have h4 := h2.1
        have h5 := hk (hi - 1) (by omega) (by omega)
        have h6 : hi - 1 < w.heap.size := by omega
        rw [Array.getElem?_eq_getElem h6] at h5
        have := (Array.getElem?_eq_some_iff.1 h5).1
        omega
      · right; omega
    rcases hsz with hsz | hsz
    · exact ⟨lo, hi, h0, ⟨hsz, fun x hx' => h2.2 x (fun k' a b => (hx' k' a b).trans (hk k' (by omega) (by have := h2.1; omega)))⟩, h3⟩
    · exact ⟨B, B, Nat.le_refl _, ⟨by
        rcases hr.2 with ⟨hv, h0⟩ | ⟨g, cap, cur, hv, hg, hh, r⟩
        · have : k < xss.length := (List.getElem?_eq_some_iff.1 hx).1
          omega
        · have hlt : g < w.heap.size := (Array.getElem?_eq_some_iff.1 hh).1
          have h5 := hk g hg hlt
          rw [hh] at h5
          have := (Array.getElem?_eq_some_iff.1 h5).1
          omega, fun x _ => h2.2 x (fun k' a b => by omega)⟩, fun b _ => by omega⟩
theorem info_P : (Tryz.prog.info? 28).map (fun i => (i.zero, i.size, i.bytes)) = some (some (.agg #[.int .i64 0, .slice none 0 0]), 2, 32) := by kernel_rfl

section
variable {ops : Array Oper} {rest : List Oper} {o : Oper} {a : Act} {Q : Exit → Act → World → Prop}
theorem wpApLP {K : Act → World → Prop} (W : World) (s x : Operand) (hop : o.op = .call { callee := .builtin .append, args := #[s, x], argTypes := #[100, 100] })
    (B : Nat) (v : Value) (m : Int) (xss : List (List (List Int))) (hs : a.eval s = v) (hown : OwLP W B v m xss) (hB : B ≤ W.heap.size) (u : Value) (row : (List (List Int))) (k : Nat) (hx : a.eval x = .slice (some ⟨k, 0, none⟩) 1 1)
    (hc0 : W.cell? ⟨k, 0, none⟩ = some (.int .i64 m)) (hc1 : W.cell? ⟨k, 1, none⟩ = some u) (hone : u.oneCell' = true) (hu : ∃ lo hi, B ≤ lo ∧ Rds lo hi W (fun x => RdT x u row) ∧ ∀ b : Nat, v.ownBlock = some b → b < lo ∨ hi ≤ b) (hn : xss.length < 1048576)
    (hK : ∀ g cap w', OwLP w' B (.slice (some ⟨g, 0, none⟩) (xss.length + 1) cap) m (xss ++ [row]) → W.grownBy w' v.ownBlock → Below B W w' → K (a.put o.dst (.slice (some ⟨g, 0, none⟩) (xss.length + 1) cap)) w') :
    Oper.wp Tryz.prog o a W K Q := by
  obtain ⟨i0, hi, hz0, hz1, hz2⟩ := info_parts info_P
  obtain ⟨us, hl, hr, h1⟩ := hown
  refine wp_append_lies W s x 100 hop B 28 i0 (.agg #[.int .i64 0, .slice none 0 0]) 2 32 Tryz.underlying100 hi hz0 hz1 hz2 rfl (by decide) v xss.length (pairsV m us) hs hr ⟨k, 0, none⟩ 1 1 [.int .i64 m, u] hx rfl (fun j u' hj => ?_) (fun u' hu' => ?_) (by decide) (by unfold maxLen; omega) (by omega) hB W.heap.size rfl ?_
  · match j with
    | 0 => simp at hj; subst hj; simpa [Addr.add] using hc0
    | 1 => simp at hj; subst hj; simpa [Addr.add] using hc1
    | j + 2 => simp at hj
  · simp at hu'; rcases hu' with rfl | rfl
    · rfl
    · exact hone
  · intro g cap w' hown' hgrow hlies hglt
    have hgb : Below B W w' := Below.grown (Below.refl B W) hgrow hB (fun b hb => (hr.lt b hb).1)
    have hg2 : ∀ lo hi, hi ≤ W.heap.size → (∀ b : Nat, v.ownBlock = some b → b < lo ∨ hi ≤ b) → ∀ b : Nat, (Value.slice (some ⟨g, 0, none⟩) (xss.length + 1) cap).ownBlock = some b → b < lo ∨ hi ≤ b := by
      intro lo hi hh hv b hb
      simp only [Value.ownBlock, Option.some.injEq] at hb
      subst hb
      rcases hlies with h | rfl
      · exact hv _ h
      · exact .inr hh
    refine hK g cap w' ⟨us ++ [u], by simp [hl], by rw [List.length_append, pairsV_app]; exact hown', fun i u' r hi' hxi => ?_⟩ hgrow hgb
    rw [List.getElem?_append] at hi' hxi
    by_cases hil : i < us.length
    · rw [if_pos hil] at hi'
      rw [if_pos (by omega)] at hxi
      obtain ⟨lo, hi, h0, h2, h3⟩ := h1 i u' r hi' hxi
      exact ⟨lo, hi, h0, h2.grown hgrow h3, hg2 lo hi h2.1 h3⟩
    · rw [if_neg hil] at hi'
      rw [if_neg (by omega)] at hxi
      have e1 : i - us.length = 0 := by
        have := (List.getElem?_eq_some_iff.1 hi').1; simp at this; omega
      rw [show i - xss.length = 0 by omega] at hxi
      rw [e1] at hi'
      simp at hi' hxi
      subst hi' hxi
      obtain ⟨lo, hi, h0, h2, h3⟩ := hu
      exact ⟨lo, hi, h0, h2.grown hgrow h3, hg2 lo hi h2.1 h3⟩
theorem stLP {K : Act → World → Prop} {E : Prop} (W : World) (hg : o.guard = none) (s x : Operand) (hop : o.op = .call { callee := .builtin .append, args := #[s, x], argTypes := #[100, 100] })
    (B : Nat) (v : Value) (m : Int) (xss : List (List (List Int))) (hs : a.eval s = v) (hown : OwLP W B v m xss) (hB : B ≤ W.heap.size) (u : Value) (row : (List (List Int))) (k : Nat) (hx : a.eval x = .slice (some ⟨k, 0, none⟩) 1 1)
    (hc0 : W.cell? ⟨k, 0, none⟩ = some (.int .i64 m)) (hc1 : W.cell? ⟨k, 1, none⟩ = some u) (hone : u.oneCell' = true) (hu : ∃ lo hi, B ≤ lo ∧ Rds lo hi W (fun x => RdT x u row) ∧ ∀ b : Nat, v.ownBlock = some b → b < lo ∨ hi ≤ b) (hn : xss.length < 1048576)
    (hK : ∀ g cap w', OwLP w' B (.slice (some ⟨g, 0, none⟩) (xss.length + 1) cap) m (xss ++ [row]) → W.grownBy w' v.ownBlock → Below B W w' → K (a.put o.dst (.slice (some ⟨g, 0, none⟩) (xss.length + 1) cap)) w') :
    if Region.wanted o (yielded ops a.tmps) = true then Oper.wp Tryz.prog o a W K Q else E := by
  have hw : Region.wanted o (yielded ops a.tmps) = true := by simp [Region.wanted, hg]
  rw [if_pos hw]
  exact wpApLP W s x hop B v m xss hs hown hB u row k hx hc0 hc1 hone hu hn hK
end
theorem OwLP.lit1 (w : World) (m : Int) (u : Value) (row : (List (List Int))) {lo hi : Nat} (hu : Rds lo hi w (fun x => RdT x u row)) (hB : lo ≤ w.heap.size) : OwLP (w.alloc (.cells #[.int .i64 m, u] 28)) lo (.slice (some ⟨w.heap.size, 0, none⟩) 1 1) m [row] := by
  have hr := World.ownsRow_lit (base := lo) (e := 28) (size := 2) w #[.int .i64 m, u] 1 hB (by unfold maxLen; omega) rfl
  refine ⟨[u], rfl, hr, fun k u' r hk hx => ?_⟩
  have : k = 0 := by have := (List.getElem?_eq_some_iff.1 hk).1; simp at this; omega
  subst this
  simp at hk hx
  subst hk hx
  refine ⟨lo, hi, Nat.le_refl _, hu.grown (World.grownBy_alloc w _ none) (fun b hb => by cases hb), fun b hb => ?_⟩
  simp only [Value.ownBlock, Option.some.injEq] at hb
  subst hb
  exact .inr hu.1

end Go.Proofs.YteijannfbafdpaaGreatDoor

/- Words of memory for lists of tables. -/
set_option linter.unusedSimpArgs false
set_option linter.unusedVariables false
namespace Go.Proofs.YteijannfbafdpaaGreatDoor
open Go.RowKit

def RdLT (w : World) (v : Value) (xss : List (List (List Int))) : Prop :=
  ∃ o c, v = .slice o xss.length c ∧ (xss.length ≤ maxLen ∧ xss.length ≤ c ∧ (o = none → c = 0)) ∧
    (∀ (k : Nat) (row : List (List Int)), xss[k]? = some row → ∃ b off u, o = some ⟨b, off, none⟩ ∧ w.cell? ⟨b, off + k, none⟩ = some u ∧ RdT w u row)
theorem RdLT.below {B : Nat} {w w' : World} {v : Value} {xss : List (List (List Int))} (h : RdLT w v xss) (hb : Below B w w') (hB : w.heap.size ≤ B) : RdLT w' v xss := by
  obtain ⟨o, c, rfl, hm, hc⟩ := h
  refine ⟨o, c, rfl, hm, fun k row hx => ?_⟩
  obtain ⟨b, off, u, ho, h0, hr⟩ := hc k row hx
  exact ⟨b, off, u, ho, keep_cell hb hB h0, hr.below hb hB⟩
theorem RdLT.base {w : World} {o : Option Addr} {n c : Nat} {xss : List (List (List Int))} (h : RdLT w (.slice o n c) xss) (hx : 1 ≤ xss.length) : ∃ b off, o = some ⟨b, off, none⟩ := by
  obtain ⟨o', c', heq, hm, hc⟩ := h
  obtain ⟨rfl, rfl, rfl⟩ : o = o' ∧ n = xss.length ∧ c = c' := by simpa using heq
  obtain ⟨b, off, u, ho, -⟩ := hc 0 xss[0] (by simp)
  exact ⟨b, off, ho⟩
theorem RdLT.at {w : World} {b off n c : Nat} {xss : List (List (List Int))} (h : RdLT w (.slice (some ⟨b, off, none⟩) n c) xss) {k : Nat} {row : List (List Int)} (hx : xss[k]? = some row) :
    ∃ o c, w.cell? ⟨b, off + k, none⟩ = some (.slice o row.length c) ∧ RdT w (.slice o row.length c) row := by
  obtain ⟨o', c', heq, hm, hc⟩ := h
  obtain ⟨rfl, -, -⟩ : some ⟨b, off, none⟩ = o' ∧ n = xss.length ∧ c = c' := by simpa using heq
  obtain ⟨b', off', u, ho, h0, h2⟩ := hc k row hx
  obtain ⟨rfl, rfl⟩ : b = b' ∧ off = off' := by simpa using ho
  obtain ⟨o, c, rfl, -, -⟩ := id h2
  exact ⟨o, c, h0, h2⟩

def OwLT (w : World) (B : Nat) (v : Value) (xss : List (List (List Int))) : Prop :=
  ∃ us : List Value, us.length = xss.length ∧ w.ownsRow B 22 1 v xss.length us ∧
    (∀ (k : Nat) (u : Value) (row : List (List Int)), us[k]? = some u → xss[k]? = some row → ∃ lo hi, B ≤ lo ∧ Rds lo hi w (fun x => RdT x u row) ∧ ∀ b : Nat, v.ownBlock = some b → b < lo ∨ hi ≤ b)
theorem OwLT.shape {w : World} {B : Nat} {v : Value} {xss : List (List (List Int))} (h : OwLT w B v xss) : ∃ o c, v = .slice o xss.length c := by
  obtain ⟨us, hl, ⟨_, hr⟩, -⟩ := h
  rcases hr with ⟨rfl, h0⟩ | ⟨g, cap, cur, rfl, -⟩
  · exact ⟨none, 0, by rw [h0]⟩
  · exact ⟨_, _, rfl⟩
theorem OwLT.mono {w : World} {B B' : Nat} {v : Value} {xss : List (List (List Int))} (h : OwLT w B v xss) (hB : B' ≤ B) : OwLT w B' v xss := by
  obtain ⟨us, hl, hr, h1⟩ := h
  refine ⟨us, hl, ⟨hr.1, ?_⟩, fun k u row hu hx => ?_⟩
  rcases hr.2 with h | ⟨g, cap, cur, hv, hg, r⟩
  · exact .inl h
  · exact .inr ⟨g, cap, cur, hv, by omega, r⟩
  obtain ⟨lo, hi, h0, h2, h3⟩ := h1 k u row hu hx
  exact ⟨lo, hi, by omega, h2, h3⟩
theorem OwLT.lt {w : World} {B : Nat} {v : Value} {xss : List (List (List Int))} (h : OwLT w B v xss) : ∀ k, v.ownBlock = some k → B ≤ k ∧ k < w.heap.size := by
  obtain ⟨us, hl, hr, -⟩ := h; exact hr.lt
theorem OwLT.grown {w w' : World} {B : Nat} {v : Value} {xss : List (List (List Int))} {r : Option Nat} (h : OwLT w B v xss) (hg : w.grownBy w' r) (hr' : v.ownBlock = none ∨ v.ownBlock ≠ r) (hlo : ∀ b, r = some b → b < B ∨ w.heap.size ≤ b) : OwLT w' B v xss := by
  obtain ⟨us, hl, hr, h1⟩ := h
  refine ⟨us, hl, hr.kept hg hr', fun k u row hu hx => ?_⟩
  obtain ⟨lo, hi, h0, h2, h3⟩ := h1 k u row hu hx
  exact ⟨lo, hi, h0, h2.grown hg (fun b hb => by have := hlo b hb; have := h2.1; omega), h3⟩
theorem OwLT.below {w w' : World} {B : Nat} {v : Value} {xss : List (List (List Int))} (h : OwLT w B v xss) (hb : Below w.heap.size w w') : OwLT w' B v xss :=
  h.grown (r := none) ⟨hb.os, hb.tape, hb.output, hb.size, fun k hk _ => hb.block k hk⟩ (by cases e : v.ownBlock <;> simp) (fun b hb => by cases hb)
theorem OwLT.rd {w : World} {B : Nat} {v : Value} {xss : List (List (List Int))} (h : OwLT w B v xss) : RdLT w v xss := by
  obtain ⟨us, hl, hr, h1⟩ := h
  rcases id hr.2 with ⟨rfl, h0⟩ | ⟨g, cap, cur, rfl, hg, hh, hn, hcm, hcs, ht⟩
  · have : xss = [] := List.eq_nil_of_length_eq_zero h0
    subst this
    exact ⟨none, 0, rfl, ⟨Nat.zero_le _, Nat.zero_le _, fun _ => rfl⟩, fun k row hx => by simp at hx⟩
  · refine ⟨_, _, rfl, ⟨by omega, hn, fun h => by cases h⟩, fun k row hx => ?_⟩
    have hk : k < xss.length := (List.getElem?_eq_some_iff.1 hx).1
    have hu : us[k]? = some us[k] := by simp [hl, hk]
    obtain ⟨lo, hi, -, h2, -⟩ := h1 k _ row hu hx
    refine ⟨g, 0, us[k], rfl, ?_, h2.now⟩
    rw [Nat.zero_add, World.ownsRow.cellAt hr k (by omega)]; exact hu
theorem OwLT.lit0 (w : World) : OwLT (w.alloc (.cells #[] 22)) w.heap.size (.slice (some ⟨w.heap.size, 0, none⟩) 0 0) [] :=
  ⟨[], rfl, World.ownsRow_lit (base := w.heap.size) (e := 22) (size := 1) w #[] 0 (Nat.le_refl _) (Nat.zero_le _) rfl, by simp⟩
theorem info_t : (Tryz.prog.info? 22).map (fun i => (i.zero, i.size, i.bytes)) = some (some (.slice none 0 0), 1, 24) := by kernel_rfl

section
variable {ops : Array Oper} {rest : List Oper} {o : Oper} {a : Act} {Q : Exit → Act → World → Prop}
end
end Go.Proofs.YteijannfbafdpaaGreatDoor

/- Two lists of tables that grow side by side. -/
set_option linter.unusedSimpArgs false
set_option linter.unusedVariables false
namespace Go.Proofs.YteijannfbafdpaaGreatDoor
open Go.RowKit

def OwLQ (w : World) (B : Nat) (q : Nat) (g n c : Nat) (xss : List (List (List Int))) : Prop :=
  n = xss.length ∧ ∃ us : List Value, us.length = xss.length ∧ w.ownsRow B 22 1 (.slice (some ⟨g, 0, none⟩) n c) xss.length us ∧
    (∀ (k : Nat) (u : Value) (row : List (List Int)), us[k]? = some u → xss[k]? = some row → ∃ lo hi, Rds lo hi w (fun x => RdT x u row) ∧ (g < lo ∨ hi ≤ g) ∧ (q < lo ∨ hi ≤ q))
theorem OwLQ.lt {w : World} {B q g n c : Nat} {xss : List (List (List Int))} (h : OwLQ w B q g n c xss) : B ≤ g ∧ g < w.heap.size := by
  obtain ⟨-, us, hl, hr, -⟩ := h; exact hr.lt g rfl
theorem OwLQ.mono {w : World} {B B' q g n c : Nat} {xss : List (List (List Int))} (h : OwLQ w B q g n c xss) (hB : B' ≤ B) : OwLQ w B' q g n c xss := by
  obtain ⟨hn, us, hl, hr, h1⟩ := h
  refine ⟨hn, us, hl, ⟨hr.1, ?_⟩, h1⟩
  rcases hr.2 with h | ⟨g', cap, cur, hv, hg, r⟩
  · exact .inl h
  · exact .inr ⟨g', cap, cur, hv, by omega, r⟩
theorem OwLQ.grown {w w' : World} {B q g n c : Nat} {xss : List (List (List Int))} (h : OwLQ w B q g n c xss) (hg : w.grownBy w' (some q)) (hne : g ≠ q) : OwLQ w' B q g n c xss := by
  obtain ⟨hn, us, hl, hr, h1⟩ := h
  refine ⟨hn, us, hl, hr.kept hg (.inr fun e => hne (by simpa [Value.ownBlock] using e)), fun k u row hu hx => ?_⟩
  obtain ⟨lo, hi, h2, h3, h4⟩ := h1 k u row hu hx
  exact ⟨lo, hi, h2.grown hg (fun b hb => by cases hb; exact h4), h3, h4⟩
theorem OwLQ.below {w w' : World} {B q g n c : Nat} {xss : List (List (List Int))} (h : OwLQ w B q g n c xss) (hb : Below w.heap.size w w') : OwLQ w' B q g n c xss := by
  obtain ⟨hn, us, hl, hr, h1⟩ := h
  refine ⟨hn, us, hl, hr.kept (row := none) ⟨hb.os, hb.tape, hb.output, hb.size, fun k hk _ => hb.block k hk⟩ (by simp [Value.ownBlock]), fun k u row hu hx => ?_⟩
  obtain ⟨lo, hi, h2, h3⟩ := h1 k u row hu hx
  exact ⟨lo, hi, h2.below hb, h3⟩
theorem OwLQ.other {w w' : World} {B q q' g n c : Nat} {xss : List (List (List Int))} (h : OwLQ w B q g n c xss) (hg : w.grownBy w' (some q)) (hne : g ≠ q) (hq : q' = q ∨ q' = w.heap.size) : OwLQ w' B q' g n c xss := by
  obtain ⟨hn, us, hl, hr, h1⟩ := h
  refine ⟨hn, us, hl, hr.kept hg (.inr fun e => hne (by simpa [Value.ownBlock] using e)), fun k u row hu hx => ?_⟩
  obtain ⟨lo, hi, h2, h3, h4⟩ := h1 k u row hu hx
  refine ⟨lo, hi, h2.grown hg (fun b hb => by cases hb; exact h4), h3, ?_⟩
  rcases hq with rfl | rfl
  · exact h4
  · exact .inr h2.1
theorem OwLQ.rd {w : World} {B q g n c : Nat} {xss : List (List (List Int))} (h : OwLQ w B q g n c xss) : RdLT w (.slice (some ⟨g, 0, none⟩) n c) xss := by
  obtain ⟨hn, us, hl, hr, h1⟩ := h
  subst hn
  rcases id hr.2 with ⟨h', h0⟩ | ⟨g', cap, cur, hv, hg, hh, hcap, hcm, hcs, ht⟩
  · cases h'
  · obtain ⟨hg', -, rfl⟩ := Value.slice.inj hv
    obtain rfl : g = g' := by simpa using hg'
    refine ⟨_, _, rfl, ⟨by omega, by omega, fun h => by cases h⟩, fun k row hx => ?_⟩
    have hk : k < xss.length := (List.getElem?_eq_some_iff.1 hx).1
    have hu : us[k]? = some us[k] := by simp [hl, hk]
    obtain ⟨lo, hi, h2, -⟩ := h1 k _ row hu hx
    refine ⟨g, 0, us[k], rfl, ?_, h2.now⟩
    rw [Nat.zero_add, World.ownsRow.cellAt hr k (by omega)]; exact hu
theorem OwLQ.lit0 (w : World) (q : Nat) : OwLQ (w.alloc (.cells #[] 22)) w.heap.size q w.heap.size 0 0 [] :=
  ⟨rfl, [], rfl, World.ownsRow_lit (base := w.heap.size) (e := 22) (size := 1) w #[] 0 (Nat.le_refl _) (Nat.zero_le _) rfl, by simp⟩

section
variable {ops : Array Oper} {rest : List Oper} {o : Oper} {a : Act} {Q : Exit → Act → World → Prop}
theorem stLQ {K : Act → World → Prop} {E : Prop} (W : World) (hg : o.guard = none) (s x : Operand) (hop : o.op = .call { callee := .builtin .append, args := #[s, x], argTypes := #[37, 37] })
    (B q g n c : Nat) (xss : List (List (List Int))) (hs : a.eval s = .slice (some ⟨g, 0, none⟩) n c) (hown : OwLQ W B q g n c xss) (hB : B ≤ W.heap.size) (u : Value) (row : List (List Int)) (k : Nat) (hx : a.eval x = .slice (some ⟨k, 0, none⟩) 1 1)
    (hc0 : W.cell? ⟨k, 0, none⟩ = some u) (hone : u.oneCell' = true) (hu : ∃ lo hi, Rds lo hi W (fun x => RdT x u row) ∧ (g < lo ∨ hi ≤ g) ∧ (q < lo ∨ hi ≤ q)) (hn : xss.length < 1048576)
    (hK : ∀ g' cap w', OwLQ w' B q g' (n + 1) cap (xss ++ [row]) → W.grownBy w' (some g) → Below B W w' → (g' = g ∨ g' = W.heap.size) → K (a.put o.dst (.slice (some ⟨g', 0, none⟩) (n + 1) cap)) w') :
    if Region.wanted o (yielded ops a.tmps) = true then Oper.wp Tryz.prog o a W K Q else E := by
  have hw : Region.wanted o (yielded ops a.tmps) = true := by simp [Region.wanted, hg]
  rw [if_pos hw]
  obtain ⟨i0, hi, hz0, hz1, hz2⟩ := info_parts info_t
  obtain ⟨rfl, us, hl, hr, h1⟩ := hown
  refine wp_append_lies W s x 37 hop B 22 i0 (.slice none 0 0) 1 24 Tryz.underlying37 hi hz0 hz1 hz2 rfl (by decide) (.slice (some ⟨g, 0, none⟩) xss.length c) xss.length us hs hr ⟨k, 0, none⟩ 1 1 [u] hx rfl (fun j u' hj => ?_) (fun u' hu' => ?_) (by decide) (by unfold maxLen; omega) (by omega) hB W.heap.size rfl ?_
  · match j with
    | 0 => simp at hj; subst hj; simpa [Addr.add] using hc0
    | j + 1 => simp at hj
  · simp at hu'; subst hu'; exact hone
  · intro g' cap w' hown' hgrow hlies hglt
    have hgl := hr.lt g rfl
    have hgb : Below B W w' := Below.grown (Below.refl B W) hgrow hB (fun b hb => (hr.lt b hb).1)
    have hl' : g' = g ∨ g' = W.heap.size := by
      rcases hlies with h | h
      · left; simp only [Value.ownBlock, Option.some.injEq] at h; exact h.symm
      · exact .inr h
    have hg0 : W.grownBy w' (some g) := hgrow
    refine hK g' cap w' ⟨by simp, us ++ [u], by simp [hl], by rw [List.length_append]; exact hown', fun i u' r hi' hxi => ?_⟩ hg0 hgb hl'
    rw [List.getElem?_append] at hi' hxi
    have fin : ∀ lo hi, Rds lo hi W (fun x => RdT x u' r) → (g < lo ∨ hi ≤ g) → (q < lo ∨ hi ≤ q) → ∃ lo hi, Rds lo hi w' (fun x => RdT x u' r) ∧ (g' < lo ∨ hi ≤ g') ∧ (q < lo ∨ hi ≤ q) := fun lo hi h2 h3 h4 =>
      ⟨lo, hi, h2.grown hg0 (fun b hb => by cases hb; exact h3), by
        rcases hl' with rfl | rfl
        · exact h3
        · exact .inr h2.1, h4⟩
    by_cases hil : i < us.length
    · rw [if_pos hil] at hi'
      rw [if_pos (by omega)] at hxi
      obtain ⟨lo, hi, h2, h3, h4⟩ := h1 i u' r hi' hxi
      exact fin lo hi h2 h3 h4
    · rw [if_neg hil] at hi'
      rw [if_neg (by omega)] at hxi
      have e1 : i - us.length = 0 := by
        have := (List.getElem?_eq_some_iff.1 hi').1; simp at this; omega
      rw [show i - xss.length = 0 by omega] at hxi
      rw [e1] at hi'
      simp at hi' hxi
      subst hi' hxi
      obtain ⟨lo, hi, h2, h3, h4⟩ := hu
      exact fin lo hi h2 h3 h4
end
end Go.Proofs.YteijannfbafdpaaGreatDoor

/- An owned row while another block is written. -/
set_option linter.unusedSimpArgs false
set_option linter.unusedVariables false
namespace Go.Proofs.YteijannfbafdpaaGreatDoor
open Go.RowKit

theorem OwI.ne {w : World} {B b k : Nat} {v : Value} {xs : List Int} (h : OwI w B v xs) (hb : ∀ j, v.ownBlock = some j → j ≠ b) (u : Value) : OwI (w.setCell ⟨b, k, none⟩ u) B v xs := by
  refine h.kept (grown_put w b k u) ?_
  cases e : v.ownBlock with
  | none => exact .inl rfl
  | some j => exact .inr fun e' => hb j e (by simpa using e')

end Go.Proofs.YteijannfbafdpaaGreatDoor
