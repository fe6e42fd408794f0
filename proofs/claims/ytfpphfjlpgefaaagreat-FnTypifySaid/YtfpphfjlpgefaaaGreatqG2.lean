/- Lemmas. -/
import Derived.Test.YtfpphfjlpgefaaaGreatqA
import Derived.Test.YtfpphfjlpgefaaaGreatRows
import Derived.WalkKit
import Derived.WalkSpells
import Derived.WalkLawsBesides
import Derived.Deep.QuietTactic
import Derived.BigQuiet
import Derived.Lib.Hide
import Derived.Deep.AppendLies
set_option maxHeartbeats 400000
set_option linter.unusedSimpArgs false
set_option linter.unusedVariables false
namespace Go.Proofs.YtfpphfjlpgefaaaGreat
open Go.RowKit
section
theorem bS {B : Nat} {a w : World} (h : Below B a w) {p : Addr} (u : Value) (hp : B ≤ p.block := by first | (simp; done) | (simp; omega) | omega) : Below B a (w.setCell p u) := h.setCell hp u
theorem bA {B : Nat} {a w : World} (h : Below B a w) (o : Obj) (hB : B ≤ w.heap.size := by first | (simp; done) | (simp; omega) | omega) : Below B a (w.alloc o) := h.alloc hB o
theorem bT {B B' : Nat} {a b c : World} (h : Below B a b) (k : Below B' b c) (hs : B ≤ B' := by first | (simp; done) | (simp; omega) | omega) : Below B a c := h.trans (k.mono hs)
theorem bR (B : Nat) (w : World) : Below B w w := Below.refl B w
theorem bN {B : Nat} {a w : World} (h : Below B a w) (n : Nat) : Below B a (w.drewN n) := below_drewN h n
theorem bD {B : Nat} {a w : World} (h : Below B a w) : Below B a w.drew := h.drew
theorem bZ {B : Nat} {a w : World} (h : Below B a w := by repeat (first | exact bR _ _ | (refine bS ?_ _) | (refine bA ?_ _) | (refine bN ?_ _) | (refine bD ?_))) : Below B a w := h
theorem sL {α : Type} : (∀ (xs : List α) (i : Nat) (h : i < xs.toArray.size), xs.toArray[i] = xs[i]'(by simpa using h)) ∧ (∀ (a : α) (ys : List α) (h : 0 < (a :: ys).length), (a :: ys)[0]'h = a) ∧ (∀ (a : α) (ys : List α) (i : Nat) (h : i + 1 < (a :: ys).length), (a :: ys)[i + 1]'h = ys[i]'(Nat.lt_of_succ_lt_succ h)) ∧ (∀ (l : List α) (i : Nat) (a : α), l.toArray.setIfInBounds i a = (l.set i a).toArray) ∧ (∀ (a b : α) (ys : List α), (a :: ys).set 0 b = b :: ys) ∧ (∀ (a b : α) (ys : List α) (n : Nat), (a :: ys).set (n + 1) b = a :: ys.set n b) :=
 ⟨fun _ _ _ => List.getElem_toArray _, fun _ _ _ => rfl, fun _ _ _ _ => rfl, fun _ _ _ => List.setIfInBounds_toArray .., fun _ _ _ => rfl, fun _ _ _ _ => rfl⟩
theorem nl (n : Nat) : n ≤ n := Nat.le_refl n
theorem dd {p : Prop} (h : p) : Hid p := Lib.hid h
theorem kr {p : Prop} (h : p := by kernel_rfl) : p := h
theorem sz {p : Prop} (h : p := by first | (simp; done) | (simp; omega) | omega) : p := h
theorem bV {B : Nat} {a F W : World} (e : W = F) (h : Below B a F := by repeat (first | exact bR _ _ | (refine bS ?_ _) | (refine bA ?_ _) | (refine bN ?_ _) | (refine bD ?_))) : Below B a W := by rw [e]; exact h
theorem bY1 {B1 : Nat} {a1 c1 : World} (k1 : Below B1 a1 c1) {B : Nat} {a z : World} (h : Below B1 a1 c1 → Below B a z := by intro k1; repeat (first | exact bR _ _ | (refine bS ?_ _) | (refine bA ?_ _) | (refine bN ?_ _) | (refine bD ?_) | (refine bT ?_ k1))) : Below B a z := h k1
theorem bY2 {B1 : Nat} {a1 c1 : World} (k1 : Below B1 a1 c1) {B2 : Nat} {a2 c2 : World} (k2 : Below B2 a2 c2) {B : Nat} {a z : World} (h : Below B1 a1 c1 → Below B2 a2 c2 → Below B a z := by intro k1 k2; repeat (first | exact bR _ _ | (refine bS ?_ _) | (refine bA ?_ _) | (refine bN ?_ _) | (refine bD ?_) | (refine bT ?_ k1) | (refine bT ?_ k2))) : Below B a z := h k1 k2
theorem bY3 {B1 : Nat} {a1 c1 : World} (k1 : Below B1 a1 c1) {B2 : Nat} {a2 c2 : World} (k2 : Below B2 a2 c2) {B3 : Nat} {a3 c3 : World} (k3 : Below B3 a3 c3) {B : Nat} {a z : World} (h : Below B1 a1 c1 → Below B2 a2 c2 → Below B3 a3 c3 → Below B a z := by intro k1 k2 k3; repeat (first | exact bR _ _ | (refine bS ?_ _) | (refine bA ?_ _) | (refine bN ?_ _) | (refine bD ?_) | (refine bT ?_ k1) | (refine bT ?_ k2) | (refine bT ?_ k3))) : Below B a z := h k1 k2 k3
theorem bY4 {B1 : Nat} {a1 c1 : World} (k1 : Below B1 a1 c1) {B2 : Nat} {a2 c2 : World} (k2 : Below B2 a2 c2) {B3 : Nat} {a3 c3 : World} (k3 : Below B3 a3 c3) {B4 : Nat} {a4 c4 : World} (k4 : Below B4 a4 c4) {B : Nat} {a z : World} (h : Below B1 a1 c1 → Below B2 a2 c2 → Below B3 a3 c3 → Below B4 a4 c4 → Below B a z := by intro k1 k2 k3 k4; repeat (first | exact bR _ _ | (refine bS ?_ _) | (refine bA ?_ _) | (refine bN ?_ _) | (refine bD ?_) | (refine bT ?_ k1) | (refine bT ?_ k2) | (refine bT ?_ k3) | (refine bT ?_ k4))) : Below B a z := h k1 k2 k3 k4
theorem bY5 {B1 : Nat} {a1 c1 : World} (k1 : Below B1 a1 c1) {B2 : Nat} {a2 c2 : World} (k2 : Below B2 a2 c2) {B3 : Nat} {a3 c3 : World} (k3 : Below B3 a3 c3) {B4 : Nat} {a4 c4 : World} (k4 : Below B4 a4 c4) {B5 : Nat} {a5 c5 : World} (k5 : Below B5 a5 c5) {B : Nat} {a z : World} (h : Below B1 a1 c1 → Below B2 a2 c2 → Below B3 a3 c3 → Below B4 a4 c4 → Below B5 a5 c5 → Below B a z := by intro k1 k2 k3 k4 k5; repeat (first | exact bR _ _ | (refine bS ?_ _) | (refine bA ?_ _) | (refine bN ?_ _) | (refine bD ?_) | (refine bT ?_ k1) | (refine bT ?_ k2) | (refine bT ?_ k3) | (refine bT ?_ k4) | (refine bT ?_ k5))) : Below B a z := h k1 k2 k3 k4 k5
theorem bY6 {B1 : Nat} {a1 c1 : World} (k1 : Below B1 a1 c1) {B2 : Nat} {a2 c2 : World} (k2 : Below B2 a2 c2) {B3 : Nat} {a3 c3 : World} (k3 : Below B3 a3 c3) {B4 : Nat} {a4 c4 : World} (k4 : Below B4 a4 c4) {B5 : Nat} {a5 c5 : World} (k5 : Below B5 a5 c5) {B6 : Nat} {a6 c6 : World} (k6 : Below B6 a6 c6) {B : Nat} {a z : World} (h : Below B1 a1 c1 → Below B2 a2 c2 → Below B3 a3 c3 → Below B4 a4 c4 → Below B5 a5 c5 → Below B6 a6 c6 → Below B a z := by intro k1 k2 k3 k4 k5 k6; repeat (first | exact bR _ _ | (refine bS ?_ _) | (refine bA ?_ _) | (refine bN ?_ _) | (refine bD ?_) | (refine bT ?_ k1) | (refine bT ?_ k2) | (refine bT ?_ k3) | (refine bT ?_ k4) | (refine bT ?_ k5) | (refine bT ?_ k6))) : Below B a z := h k1 k2 k3 k4 k5 k6
theorem bY7 {B1 : Nat} {a1 c1 : World} (k1 : Below B1 a1 c1) {B2 : Nat} {a2 c2 : World} (k2 : Below B2 a2 c2) {B3 : Nat} {a3 c3 : World} (k3 : Below B3 a3 c3) {B4 : Nat} {a4 c4 : World} (k4 : Below B4 a4 c4) {B5 : Nat} {a5 c5 : World} (k5 : Below B5 a5 c5) {B6 : Nat} {a6 c6 : World} (k6 : Below B6 a6 c6) {B7 : Nat} {a7 c7 : World} (k7 : Below B7 a7 c7) {B : Nat} {a z : World} (h : Below B1 a1 c1 → Below B2 a2 c2 → Below B3 a3 c3 → Below B4 a4 c4 → Below B5 a5 c5 → Below B6 a6 c6 → Below B7 a7 c7 → Below B a z := by intro k1 k2 k3 k4 k5 k6 k7; repeat (first | exact bR _ _ | (refine bS ?_ _) | (refine bA ?_ _) | (refine bN ?_ _) | (refine bD ?_) | (refine bT ?_ k1) | (refine bT ?_ k2) | (refine bT ?_ k3) | (refine bT ?_ k4) | (refine bT ?_ k5) | (refine bT ?_ k6) | (refine bT ?_ k7))) : Below B a z := h k1 k2 k3 k4 k5 k6 k7

def qBf (G : Nat) : Prop := ∀ args w, Sem.run Tryz.prog (callFunc G args) w = .ok (.enter G args) w

theorem qDM {P : Program} {f : FuncId} {args : Array Value} {w : World} {n : Nat} {v u : Value} (hvu : v = u)
  (h : Calls P f args (w.drewN n) fun e w' => e = .returned v ∧ w.drewN n = w') : Calls P f args (w.drewN n) fun e w'' => e = .returned u ∧ ∃ m, w'' = w.drewN m :=
 hvu ▸ h.mono fun _ _ ⟨he, hm⟩ => ⟨he, n, hm.symm⟩
theorem qDJ {P : Program} {f : FuncId} {args : Array Value} {w : World} {d n : Nat} {v u : Value} (hvu : v = u)
  (h : Calls P f args (w.drewN (d + n)) fun e w' => e = .returned v ∧ w.drewN (d + n) = w') : Calls P f args (w.drewN (d + n)) fun e w'' => e = .returned u ∧ ∃ m, w'' = w.drewN (d + m) :=
 hvu ▸ h.mono fun _ _ ⟨he, hm⟩ => ⟨he, n, hm.symm⟩
theorem qDN {P : Program} {f : FuncId} {args : Array Value} {w : World} {n : Nat} {v u : Value} (hvu : v = u)
  (h : Calls P f args (w.drewN n) fun e w' => e = .returned v ∧ ∃ d, w' = (w.drewN n).drewN d) : Calls P f args (w.drewN n) fun e w'' => e = .returned u ∧ ∃ m, w'' = w.drewN m :=
 hvu ▸ h.mono fun _ _ ⟨he, d, hm⟩ => ⟨he, n + d, by rw [hm, World.drewN_drewN]⟩
theorem qDL {P : Program} {f : FuncId} {args : Array Value} {w : World} {d n : Nat} {v u : Value} (hvu : v = u)
  (h : Calls P f args (w.drewN (d + n)) fun e w' => e = .returned v ∧ ∃ m, w' = (w.drewN (d + n)).drewN m) : Calls P f args (w.drewN (d + n)) fun e w'' => e = .returned u ∧ ∃ m, w'' = w.drewN (d + m) :=
 hvu ▸ h.mono fun _ _ ⟨he, m, hm⟩ => ⟨he, n + m, by rw [hm, World.drewN_drewN, Nat.add_assoc]⟩

theorem bcell {W w1 : World} (hb : Below W.heap.size W w1) : (∀ b o, b < W.heap.size → w1.cell? ⟨b, o, none⟩ = W.cell? ⟨b, o, none⟩) ∧ (∀ b o, b < W.heap.size → w1.frozen? ⟨b, o, none⟩ = W.frozen? ⟨b, o, none⟩) :=
 ⟨fun b o h => hb.cell (p := ⟨b, o, none⟩) h, fun b o h => hb.frozen (p := ⟨b, o, none⟩) h⟩

def RdI (w : World) (v : Value) (xs : Li) : Prop :=
 ∃ o c, v = .slice o xs.length c ∧ (xs.length ≤ maxLen ∧ xs.length ≤ c ∧ (o = none → c = 0)) ∧
   (∀ k x, xs[k]? = some x → ∃ b off, o = some ⟨b, off, none⟩ ∧ w.cell? ⟨b, off + k, none⟩ = some (.int .i64 x))

theorem qBH {w : World} {b off : Nat} {x : Value} (h : w.cell? ⟨b, off, none⟩ = some x) : b < w.heap.size := World.block_lt_of_cell? w ⟨b, off, none⟩ h

theorem qA0 {B : Nat} {w w' : World} (hb : Below B w w') (hB : w.heap.size ≤ B) {b off : Nat} {x : Value} (h : w.cell? ⟨b, off, none⟩ = some x) : w'.cell? ⟨b, off, none⟩ = some x := by
 have hl := qBH h
 rw [hb.cell (p := ⟨b, off, none⟩) (by show b < B; omega)]; exact h

theorem RdI.below {B : Nat} {w w' : World} {v : Value} {xs : Li} (h : RdI w v xs) (hb : Below B w w') (hB : w.heap.size ≤ B := by exact Nat.le_refl _) : RdI w' v xs := by
 obtain ⟨o, c, rfl, hm, hc⟩ := h
 refine ⟨o, c, rfl, hm, fun k x hx => ?_⟩
 obtain ⟨b, off, ho, hcell⟩ := hc k x hx
 exact ⟨b, off, ho, qA0 hb hB hcell⟩

theorem RdI.nil (w : World) : RdI w (.slice none 0 0) [] := ⟨none, 0, rfl, ⟨Nat.zero_le _, Nat.zero_le _, fun _ => rfl⟩, fun k x hx => by simp at hx⟩

def OwI (w : World) (B : Nat) (v : Value) (xs : Li) : Prop := w.ownsRow B 2 1 v xs.length (xs.map (Value.int .i64))

theorem OwI.rd {w : World} {B : Nat} {v : Value} {xs : Li} (h : OwI w B v xs) : RdI w v xs := by
 obtain ⟨h1, h2⟩ := h
 rcases h2 with ⟨rfl, h0⟩ | ⟨g, cap, cur, rfl, hg, hh, hn, hcm, hcs, ht⟩
 ·have : xs = [] := List.eq_nil_of_length_eq_zero h0; subst this; exact RdI.nil w
 ·refine ⟨_, _, rfl, ⟨Oo, hn, fun h => by cases h⟩, fun k x hx => ⟨g, 0, rfl, ?_⟩⟩; have := World.ownsRow.cells (w := w) (base := B) (e := 2) (size := 1) (v := .slice (some ⟨g, 0, none⟩) xs.length cap) (n := xs.length) (xs := xs.map (Value.int .i64)) ⟨h1, .inr ⟨g, cap, cur, rfl, hg, hh, hn, hcm, hcs, ht⟩⟩ (g := g) rfl k (.int .i64 x) (by simp [hx])
  have e : (⟨g, 0, none⟩ : Addr).add k = ⟨g, 0 + k, none⟩ := by unfold Addr.add; split <;> simp_all
  rw [e] at this; exact this

theorem OwI.shape {w : World} {B : Nat} {v : Value} {xs : Li} (h : OwI w B v xs) : ∃ o c, v = .slice o xs.length c := by
 obtain ⟨o, c, rfl, -, -⟩ := h.rd
 exact ⟨o, c, rfl⟩

theorem OwI.mono {w : World} {B B' : Nat} {v : Value} {xs : Li} (h : OwI w B v xs) (hB : B' ≤ B) : OwI w B' v xs := by
 obtain ⟨h1, h2⟩ := h
 refine ⟨h1, ?_⟩
 rcases h2 with h2 | ⟨g, cap, cur, hv, hg, r⟩
 ·exact .inl h2
 ·exact .inr ⟨g, cap, cur, hv, Oo, r⟩

theorem OwI.below {w w' : World} {B : Nat} {v : Value} {xs : Li} (h : OwI w B v xs) (hb : Below w.heap.size w w') : OwI w' B v xs := by
 obtain ⟨h1, h2⟩ := h
 refine ⟨h1, ?_⟩
 rcases h2 with h2 | ⟨g, cap, cur, hv, hg, hh, r⟩
 ·exact .inl h2
 ·refine .inr ⟨g, cap, cur, hv, hg, ?_, r⟩
  have hl : g < w.heap.size := by
   rcases Nat.lt_or_ge g w.heap.size with h | h
   ·exact h
   ·simp [Array.getElem?_eq_none h] at hh
  rw [hb.block g hl]; exact hh

theorem qCy : (Tryz.prog.info? 2).map (fun i => (i.zero, i.size, i.bytes)) = some (some (.int .i64 0), 1, 8) := by kernel_rfl

theorem OwI.kept {w w' : World} {B : Nat} {v : Value} {xs : Li} {row : Option Nat} (h : OwI w B v xs) (hg : w.grownBy w' row) (hne : v.ownBlock = none ∨ v.ownBlock ≠ row) : OwI w' B v xs := World.ownsRow.kept h hg hne

theorem OwI.lt {w : World} {B : Nat} {v : Value} {xs : Li} (h : OwI w B v xs) : ∀ k, v.ownBlock = some k → B ≤ k ∧ k < w.heap.size := World.ownsRow.lt h

theorem OwI.alloc {w : World} {B : Nat} {v : Value} {xs : Li} (h : OwI w B v xs) (o : Obj) : OwI (w.alloc o) B v xs := World.ownsRow.alloc h o

theorem OwI.nil (w : World) (B : Nat) : OwI w B (.slice none 0 0) [] := World.ownsRow_nil _ _ _ _

theorem OwI.drewN {w : World} {B : Nat} {v : Value} {xs : Li} (h : OwI w B v xs) (n : Nat) : OwI (w.drewN n) B v xs := h

theorem OwI.opn {w : World} {B : Nat} {v : Value} {xs : Li} (h : OwI w B v xs) (hne : 0 < xs.length) :
  ∃ g cap, v = .slice (some ⟨g, 0, none⟩) xs.length cap ∧ B ≤ g ∧ g < w.heap.size ∧ xs.length ≤ maxLen ∧
    (∀ k x, xs[k]? = some x → w.cell? ⟨g, k, none⟩ = some (.int .i64 x)) ∧ (∀ k, w.frozen? ⟨g, k, none⟩ = false) := by
 have h' := h
 obtain ⟨h1, h2⟩ := h
 rcases h2 with ⟨rfl, h0⟩ | ⟨g, cap, cur, rfl, hg, hh, hn, hcm, hcs, ht⟩
 ·omega
 ·refine ⟨g, cap, rfl, hg, (Array.getElem?_eq_some_iff.1 hh).1, Oo, fun k x hx => ?_, fun k => World.ownsRow.frozenAt h' k⟩; rw [World.ownsRow.cellAt h' k (by have := (List.getElem?_eq_some_iff.1 hx).1; omega)]; simp [hx]

theorem OwI.put {w : World} {B g n cap : Nat} {xs : Li} (h : OwI w B (.slice (some ⟨g, 0, none⟩) n cap) xs) (k : Nat) (y : Int) :
  OwI (w.setCell ⟨g, k, none⟩ (.int .i64 y)) B (.slice (some ⟨g, 0, none⟩) n cap) (xs.set k y) := by
 have hn : n = xs.length := by
  rcases h.2 with ⟨h', _⟩ | ⟨g', cap', cur, h', _⟩
  ·simp at h'
  ·simpa using (Value.slice.inj h').2.1
 subst hn
 have := (World.ownsRow.stored h k (.int .i64 y)).1
 unfold OwI
 rw [List.length_set, List.map_set]
 exact this

theorem OwI.cell {w : World} {B g n cap : Nat} {xs : Li} (h : OwI w B (.slice (some ⟨g, 0, none⟩) n cap) xs) {k : Nat} {x : Int} (hx : xs[k]? = some x) : w.cell? ⟨g, k, none⟩ = some (.int .i64 x) := by
 have hl := (List.getElem?_eq_some_iff.1 hx).1
 obtain ⟨g', cap', hv, _, _, _, hcell, _⟩ := OwI.opn h Oo
 have : g = g' := by simpa using (Value.slice.inj hv).1
 subst this
 exact hcell k x hx

theorem OwI.fz {w : World} {B g n cap : Nat} {xs : Li} (h : OwI w B (.slice (some ⟨g, 0, none⟩) n cap) xs) (k : Nat) : w.frozen? ⟨g, k, none⟩ = false := by
 rcases h.2 with ⟨h', _⟩ | ⟨g', cap', cur, h', _, hg, _⟩
 ·simp at h'
 ·have : g = g' := by simpa using (Value.slice.inj h').1
  subst this; exact frozen_of_row w g k cur _ hg

theorem OwI.len {w : World} {B n c : Nat} {o : Option Addr} {xs : Li} (h : OwI w B (.slice o n c) xs) : n = xs.length := by
 rcases h.2 with ⟨h', h0⟩ | ⟨g', cap', cur, h', _⟩
 ·have := (Value.slice.inj h').2.1; omega
 ·simpa using (Value.slice.inj h').2.1

theorem OwI.low {w : World} {B : Nat} {v : Value} {xs : Li} (h : OwI w B v xs) {a : Addr} (ha : a.block < B) (u : Value) : OwI (w.setCell a u) B v xs := ownsRow_setCell_below h ha u

theorem qAL {B : Nat} {a w : World} (h : Below B a w) {g k : Nat} (hg : B ≤ g) (u : Value) : Below B a (w.setCell ⟨g, k, none⟩ u) := h.setCell (p := ⟨g, k, none⟩) hg u

theorem qBx (w : World) (g k : Nat) (u : Value) : w.grownBy (w.setCell ⟨g, k, none⟩ u) (some g) :=
 ⟨rfl, rfl, rfl, by simp, fun j _ hj => heap_setCell_other w ⟨g, k, none⟩ j u (fun e => hj (by simp [e]))⟩

theorem qLr {w w' : World} {row : Option Nat} {B : Nat} (hg : w.grownBy w' row) (hB : B ≤ w.heap.size) (hr : ∀ k, row = some k → B ≤ k) : Below B w w' := (Below.refl B w).grown hg hB hr

def Box3 (w : World) (b : Nat) (x y z : Value) : Prop := w.cell? ⟨b, 0, none⟩ = some x ∧ w.cell? ⟨b, 1, none⟩ = some y ∧ w.cell? ⟨b, 2, none⟩ = some z
theorem Box3.below {B : Nat} {w w' : World} {b : Nat} {x y z : Value} (h : Box3 w b x y z) (hb : Below B w w') (hB : w.heap.size ≤ B := by exact Nat.le_refl _) : Box3 w' b x y z :=
 ⟨qA0 hb hB h.1, qA0 hb hB h.2.1, qA0 hb hB h.2.2⟩
theorem Box3.lt {w : World} {b : Nat} {x y z : Value} (h : Box3 w b x y z) : b < w.heap.size := qBH h.1
theorem Box3.mk' (w : World) (x y z : Value) (t : TypeId) : Box3 (w.alloc (.cells #[x, y, z] t)) w.heap.size x y z := ⟨by simp, by simp, by simp⟩
def Box2 (w : World) (b : Nat) (x y : Value) : Prop := w.cell? ⟨b, 0, none⟩ = some x ∧ w.cell? ⟨b, 1, none⟩ = some y
theorem Box2.below {B : Nat} {w w' : World} {b : Nat} {x y : Value} (h : Box2 w b x y) (hb : Below B w w') (hB : w.heap.size ≤ B := by exact Nat.le_refl _) : Box2 w' b x y :=
 ⟨qA0 hb hB h.1, qA0 hb hB h.2⟩
theorem Box2.lt {w : World} {b : Nat} {x y : Value} (h : Box2 w b x y) : b < w.heap.size := qBH h.1
theorem Box2.mk' (w : World) (x y : Value) (t : TypeId) : Box2 (w.alloc (.cells #[x, y] t)) w.heap.size x y := ⟨by simp, by simp⟩

def RB3 (w : World) (b : Nat) (x y z : Value) : Prop := Box3 w b x y z ∧ ∀ k, w.frozen? ⟨b, k, none⟩ = false
theorem RB3.below {B : Nat} {w w' : World} {b : Nat} {x y z : Value} (h : RB3 w b x y z) (hb : Below B w w') (hB : w.heap.size ≤ B := by exact Nat.le_refl _) : RB3 w' b x y z :=
 ⟨h.1.below hb hB, fun k => (hb.frozen (p := ⟨b, k, none⟩) (Nat.lt_of_lt_of_le h.1.lt hB)).trans (h.2 k)⟩
theorem qHI (w : World) (cs : Array Value) (t : TypeId) (k : Nat) : (w.alloc (.cells cs t)).frozen? ⟨w.heap.size, k, none⟩ = false := frozen_of_row _ _ _ cs t (heap_alloc_new w _)
theorem RB3.mk1 (w : World) (x y z : Value) (t : TypeId) : RB3 (w.alloc (.cells #[x, y, z] t)) w.heap.size x y z := ⟨Box3.mk' w x y z t, qHI w _ t⟩
theorem RB3.mk2 (w : World) (o : Obj) (x y z : Value) (t : TypeId) : RB3 ((w.alloc o).alloc (.cells #[x, y, z] t)) (w.heap.size + 1) x y z := by
 have := RB3.mk1 (w.alloc o) x y z t
 simpa using this
theorem RB3.mk3 (w : World) (o o' : Obj) (x y z : Value) (t : TypeId) : RB3 (((w.alloc o).alloc o').alloc (.cells #[x, y, z] t)) (w.heap.size + 2) x y z := by
 have := RB3.mk1 ((w.alloc o).alloc o') x y z t
 simpa using this
def RB2 (w : World) (b : Nat) (x y : Value) : Prop := Box2 w b x y ∧ ∀ k, w.frozen? ⟨b, k, none⟩ = false
theorem RB2.below {B : Nat} {w w' : World} {b : Nat} {x y : Value} (h : RB2 w b x y) (hb : Below B w w') (hB : w.heap.size ≤ B := by exact Nat.le_refl _) : RB2 w' b x y :=
 ⟨h.1.below hb hB, fun k => (hb.frozen (p := ⟨b, k, none⟩) (Nat.lt_of_lt_of_le h.1.lt hB)).trans (h.2 k)⟩
theorem RB2.mk1 (w : World) (x y : Value) (t : TypeId) : RB2 (w.alloc (.cells #[x, y] t)) w.heap.size x y := ⟨Box2.mk' w x y t, qHI w _ t⟩
theorem RB2.mk2 (w : World) (o : Obj) (x y : Value) (t : TypeId) : RB2 ((w.alloc o).alloc (.cells #[x, y] t)) (w.heap.size + 1) x y := by
 have := RB2.mk1 (w.alloc o) x y t
 simpa using this
theorem RB2.mk3 (w : World) (o o' : Obj) (x y : Value) (t : TypeId) : RB2 (((w.alloc o).alloc o').alloc (.cells #[x, y] t)) (w.heap.size + 2) x y := by
 have := RB2.mk1 ((w.alloc o).alloc o') x y t
 simpa using this

section
variable {ops : Array Oper} {rest : List Oper} {o : Oper} {a : Act} {Q : Exit → Act → World → Prop}

theorem mkI (w : World) (hg : o.guard = none) (l c : Operand) (hop : o.op = Op.makeSlice 28 l c) (kl kc : IntKind) (L : Int) (n : Nat)
  (hl : a.eval l = .int kl L) (hc : a.eval c = .int kc L) (hL : L = (n : Int)) (hn : n ≤ 1099511627776)
  (hK : ∀ w', OwI w' w.heap.size (.slice (some ⟨w.heap.size, 0, none⟩) n n) (List.replicate n 0) → Below w.heap.size w w' → w'.heap.size = w.heap.size + 1 → wpList Tryz.prog ops Q rest (a.put o.dst (.slice (some ⟨w.heap.size, 0, none⟩) n n)) w') :
  wpList Tryz.prog ops Q (o :: rest) a w := by
 obtain ⟨i0, hi, hz0, hz1, hz2⟩ := info_parts qCy
 subst hL
 refine wpList_plain hg fun K hK' => ?_
 have hr := run_make (P := Tryz.prog) w 28 2 i0 (.int .i64 0) Tryz.underlying28 hi hz0 kl kc n n Oo (Int.le_refl _) (by rw [hz2]; omega) Oo
 simp only [Int.toNat_natCast, hz1, Nat.mul_one] at hr
 unfold Oper.wp
 have := hK (w.alloc (.cells (madeCells (Value.int IntKind.i64 0).cells n) 2)) (by
  have h := World.ownsRow_lit (base := w.heap.size) (e := 2) (size := 1) w (madeCells (Value.int IntKind.i64 0).cells n) n (Nat.le_refl _) (by unfold maxLen; omega) (by simp [size_madeCells])
  have e : (madeCells (Value.int IntKind.i64 0).cells n).toList = (List.replicate n (0 : Int)).map (Value.int .i64) := by
   rw [show (Value.int IntKind.i64 0).cells = #[Value.int IntKind.i64 0] from rfl, toList_madeCells_one, List.map_replicate]
  rw [e] at h; unfold OwI; rw [List.length_replicate]; exact h) (qLr (World.grownBy_alloc w _ none) (Nat.le_refl _) (fun k h => by cases h)) (by simp)
 simp [execOp, hop, hl, hc, hr, Result.andThen]
 exact hK' _ _ this

theorem apI (w : World) (hg : o.guard = none) (s x : Operand) (hop : o.op = .call { callee := .builtin .append, args := #[s, x], argTypes := #[28, 28] })
  (B : Nat) (v : Value) (xs : Li) (hs : a.eval s = v) (hown : OwI w B v xs) (y : Int) (hx : a.eval x = .slice (some ⟨w.heap.size, 0, none⟩) 1 1)
  (hn : xs.length < 1099511627776) (hB : B ≤ w.heap.size)
  (hK : ∀ v' w', OwI w' B v' (xs ++ [y]) → (w.alloc (.cells #[.int .i64 y] 2)).grownBy w' v.ownBlock → Below B w w' → w.heap.size < w'.heap.size → wpList Tryz.prog ops Q rest (a.put o.dst v') w') :
  wpList Tryz.prog ops Q (o :: rest) a (w.alloc (.cells #[.int .i64 y] 2)) := by
 obtain ⟨i0, hi, hz0, hz1, hz2⟩ := info_parts qCy
 refine wpList_append_own _ hg s x 28 hop B 2 i0 (.int .i64 0) 1 8 Tryz.underlying28 hi hz0 hz1 hz2 rfl (by decide) v xs.length (xs.map (Value.int .i64)) hs (World.ownsRow.alloc hown _) ⟨w.heap.size, 0, none⟩ 1 1 [.int .i64 y] hx rfl (cell_one_new _ _ _) (ints_oneCell .i64 [y]) (by unfold maxLen; omega) Oo (by simp; omega) ?_
 intro v' w' hown' hgrow _
 refine hK v' w' (by unfold OwI; rw [List.length_append, List.map_append]; exact hown') hgrow ?_ (by have := hgrow.size; simp at this; omega)
 refine Below.grown (((Below.refl B w)).alloc hB _) hgrow (by simp; omega) ?_
 intro k hk
 exact (OwI.lt hown k hk).1
theorem qJ8 {K : Act → World → Prop} (w : World) (s x : Operand) (hop : o.op = .call { callee := .builtin .append, args := #[s, x], argTypes := #[28, 28] })
  (B : Nat) (v : Value) (xs : Li) (hs : a.eval s = v) (hown : OwI w B v xs) (ad : Addr) (m c : Nat) (ys : Li) (hx : a.eval x = .slice (some ad) m c) (hr : RdI w (.slice (some ad) m c) ys)
  (hn : xs.length + ys.length < 1099511627776) (hB : B ≤ w.heap.size)
  (hK : ∀ o1 c1 w', OwI w' B (.slice o1 (xs ++ ys).length c1) (xs ++ ys) → w.grownBy w' v.ownBlock → Below B w w' → K (a.put o.dst (.slice o1 (xs ++ ys).length c1)) w') :
  Oper.wp Tryz.prog o a w K Q := by
 obtain ⟨i0, hi, hz0, hz1, hz2⟩ := info_parts qCy
 obtain ⟨o', c', heq, hm, hc⟩ := hr
 obtain ⟨rfl, rfl, rfl⟩ : some ad = o' ∧ m = ys.length ∧ c = c' := by simpa using heq
 refine wp_append_own w s x 28 hop B 2 i0 (.int .i64 0) 1 8 Tryz.underlying28 hi hz0 hz1 hz2 rfl (by decide) v xs.length (xs.map (Value.int .i64)) hs hown ad ys.length c (ys.map (Value.int .i64)) hx (by simp) ?_ (ints_oneCell .i64 ys) (by unfold maxLen; omega) Oo hB ?_
 ·intro j u hu; simp only [List.getElem?_map, Option.map_eq_some_iff] at hu; obtain ⟨y, hy, rfl⟩ := hu; obtain ⟨b, off, hb, hcell⟩ := hc j y hy; obtain rfl := Option.some.inj hb; rw [Addr.add_lit]; exact hcell
 ·intro v' w' hown' hgrow _; have how : OwI w' B v' (xs ++ ys) := by unfold OwI; rw [List.length_append, List.map_append]; exact hown'
  obtain ⟨o1, c1, rfl⟩ := how.shape; refine hK o1 c1 w' how hgrow ?_; exact Below.grown (Below.refl B w) hgrow hB (fun k hk => (OwI.lt hown k hk).1)

theorem apR (w : World) (hg : o.guard = none) (s x : Operand) (hop : o.op = .call { callee := .builtin .append, args := #[s, x], argTypes := #[28, 28] })
  (B : Nat) (v : Value) (xs : Li) (hs : a.eval s = v) (hown : OwI w B v xs) (ad : Addr) (m c : Nat) (ys : Li) (hx : a.eval x = .slice (some ad) m c) (hr : RdI w (.slice (some ad) m c) ys)
  (hn : xs.length + ys.length < 1099511627776) (hB : B ≤ w.heap.size)
  (hK : ∀ o1 c1 w', OwI w' B (.slice o1 (xs ++ ys).length c1) (xs ++ ys) → w.grownBy w' v.ownBlock → Below B w w' → wpList Tryz.prog ops Q rest (a.put o.dst (.slice o1 (xs ++ ys).length c1)) w') :
  wpList Tryz.prog ops Q (o :: rest) a w :=
 wpList_plain hg fun _ hK' => qJ8 w s x hop B v xs hs hown ad m c ys hx hr hn hB fun o1 c1 w' h1 h2 h3 => hK' _ _ (hK o1 c1 w' h1 h2 h3)

theorem stR {K : Act → World → Prop} {E : Prop} (w : World) (hg : o.guard = none) (s x : Operand) (hop : o.op = .call { callee := .builtin .append, args := #[s, x], argTypes := #[28, 28] })
  (B : Nat) (v : Value) (xs : Li) (hs : a.eval s = v) (hown : OwI w B v xs) (ad : Addr) (m c : Nat) (ys : Li) (hx : a.eval x = .slice (some ad) m c) (hr : RdI w (.slice (some ad) m c) ys)
  (hn : xs.length + ys.length < 1099511627776) (hB : B ≤ w.heap.size)
  (hK : ∀ o1 c1 w', OwI w' B (.slice o1 (xs ++ ys).length c1) (xs ++ ys) → w.grownBy w' v.ownBlock → Below B w w' → K (a.put o.dst (.slice o1 (xs ++ ys).length c1)) w') :
  if Region.wanted o (yielded ops a.tmps) = true then Oper.wp Tryz.prog o a w K Q else E := by
 have hw : Region.wanted o (yielded ops a.tmps) = true := by simp [Region.wanted, hg]
 rw [if_pos hw]
 exact qJ8 w s x hop B v xs hs hown ad m c ys hx hr hn hB hK
end

theorem OwI.lit (w : World) (ys : Li) (h : ys.length ≤ maxLen) : OwI (w.alloc (.cells (ys.map (Value.int .i64)).toArray 2)) w.heap.size (.slice (some ⟨w.heap.size, 0, none⟩) ys.length ys.length) ys := by
 have := World.ownsRow_lit (base := w.heap.size) (e := 2) (size := 1) w (ys.map (Value.int .i64)).toArray ys.length (Nat.le_refl _) h (by simp)
 simpa [OwI] using this

theorem qE9 (n k : Nat) (x : Int) (h : k < n) : (List.replicate n x)[k]? = some x := by simp [List.getElem?_replicate, h]

theorem RdI.take {w : World} {ad : Addr} {n c : Nat} {xs : Li} (h : RdI w (.slice (some ad) n c) xs) (k : Nat) (hk : k ≤ xs.length) : RdI w (.slice (some ad) k c) (xs.take k) := by
 obtain ⟨o', c', heq, hm, hc⟩ := h
 obtain ⟨rfl, rfl, rfl⟩ : some ad = o' ∧ n = xs.length ∧ c = c' := by simpa using heq
 have hl : (xs.take k).length = k := by simp; omega
 refine ⟨some ad, c, by rw [hl], ⟨Oo, Oo, fun h => by cases h⟩, fun j x hx => ?_⟩
 rw [List.getElem?_take] at hx
 split at hx
 ·exact hc j x hx
 ·cases hx

end
section

def inB (n lo hi : Int) : Bool := decide (lo ≤ n ∧ n ≤ hi)
theorem qER {n lo hi : Int} (h : inB n lo hi = true) : lo ≤ n ∧ n ≤ hi := by simpa [inB] using h
theorem inB_f {n lo hi : Int} (h : inB n lo hi = false) : ¬ (lo ≤ n ∧ n ≤ hi) := by simpa [inB] using h
theorem qG9 {n lo hi : Int} (h1 : lo ≤ n) (h2 : n ≤ hi) : inB n lo hi = true := by simp [inB, h1, h2]

def qCC (m : Int) : Bool := inB m 2 10000
theorem qE_ {m : Int} (h : qCC m = true) : 2 ≤ m ∧ m ≤ 10000 := qER h
def qBK (p : Int) : Bool := decide (p = 2 ∨ p = 3 ∨ p = 5 ∨ p = 7)
theorem qFn {p : Int} (h : qBK p = true) : p = 2 ∨ p = 3 ∨ p = 5 ∨ p = 7 := by simpa [qBK] using h
theorem qIM (n lo hi : Int) (w : World) :
  Calls Tryz.prog 152 #[.int .i64 n, .int .i64 lo, .int .i64 hi] w fun e w' => e = .returned (.bool (inB n lo hi)) ∧ w = w' := by
 go_enter Tryz.func152, Tryz.ntmps152
 go_wp2
 all_goals go_ret
 all_goals exact ⟨by simp [inB]; omega, rfl⟩
theorem qEl (n lo hi : Int) (w : World) :
  Calls Tryz.prog 71 #[.int .i64 n, .int .i64 lo, .int .i64 hi] w fun e w' => e = .returned (.bool (inB n lo hi)) ∧ w = w' := by
 go_enter Tryz.func71, Tryz.ntmps71
 go_wp2
 all_goals go_ret
 all_goals exact ⟨by simp [inB]; omega, rfl⟩

theorem qH1 (a m : Int) (w : World) (hm : -9223372036854775808 < m) (hm' : m ≤ 9223372036854775807) :
  Calls Tryz.prog 81 #[.int .i64 a, .int .i64 m] w fun e w' => e = .returned (.bool (inB a 0 (m - 1))) ∧ w = w' := by
 go_enter Tryz.func81, Tryz.ntmps81
 go_wp2_with (go_at_call 71; refine (qEl _ _ _ _).mono ?_; rintro e w' ⟨rfl, rfl⟩)
 go_ret
 exact ⟨rfl, rfl⟩

theorem qD7 (m : Int) (w : World) :
  Calls Tryz.prog 77 #[.int .i64 m] w fun e w' => e = .returned (.bool (qCC m)) ∧ w = w' := by
 go_enter Tryz.func77, Tryz.ntmps77
 go_wp2_with (go_at_call 71; refine (qEl _ _ _ _).mono ?_; rintro e w' ⟨rfl, rfl⟩)
 go_ret
 exact ⟨rfl, rfl⟩

theorem qFW (p : Int) (w : World) :
  Calls Tryz.prog 123 #[.int .i64 p] w fun e w' => e = .returned (.bool (qBK p)) ∧ w = w' := by
 by_cases hp : p = 2 ∨ p = 3 ∨ p = 5 ∨ p = 7
 ·have hp' : qBK p = true := by simpa [qBK] using hp
  rw [hp']; clear hp'; rcases hp with rfl | rfl | rfl | rfl
  all_goals
   go_enter Tryz.func123, Tryz.ntmps123
   go_wp2; go_ret; exact ⟨rfl, rfl⟩
 ·have hp' : qBK p = false := by simpa [qBK] using hp
  have h1 : (p == 2) = false := by simp; omega
  have h2 : (p == 3) = false := by simp; omega
  have h3 : (p == 5) = false := by simp; omega
  have h4 : (p == 7) = false := by simp; omega
  clear hp
  go_enter Tryz.func123, Tryz.ntmps123
  go_wp2; go_ret; exact ⟨by rw [hp']; rfl, rfl⟩
theorem qDx (p : Int) (w : World) :
  Calls Tryz.prog 103 #[.int .i64 p] w fun e w' => e = .returned (.bool (qBK p)) ∧ w = w' := by
 by_cases hp : p = 2 ∨ p = 3 ∨ p = 5 ∨ p = 7
 ·have hp' : qBK p = true := by simpa [qBK] using hp
  rw [hp']; clear hp'; rcases hp with rfl | rfl | rfl | rfl
  all_goals
   go_enter Tryz.func103, Tryz.ntmps103
   go_wp2; go_ret; exact ⟨rfl, rfl⟩
 ·have hp' : qBK p = false := by simpa [qBK] using hp
  have h1 : (p == 2) = false := by simp; omega
  have h2 : (p == 3) = false := by simp; omega
  have h3 : (p == 5) = false := by simp; omega
  have h4 : (p == 7) = false := by simp; omega
  clear hp
  go_enter Tryz.func103, Tryz.ntmps103
  go_wp2; go_ret; exact ⟨by rw [hp']; rfl, rfl⟩

end
section

def qCm {T : Type} (q : T → Bool) : List T → Int
 | [] => -1
 | x :: xs => if q x then 0 else if qCm q xs < 0 then -1 else qCm q xs + 1

theorem qMP {T : Type} (q : T → Bool) (xs : List T) : decide (0 ≤ qCm q xs) = xs.any q := by
 induction xs with
 | nil => simp [qCm]
 | cons x xs ih =>
   rw [List.any_cons, ← ih]; simp only [qCm]
   by_cases hx : q x = true
   ·simp [hx]
   ·by_cases h2 : qCm q xs < 0
    ·simp [hx, h2]
    ·simp [hx, h2]; omega

theorem qMH {T : Type} (q : T → Bool) (xs : List T) (k : Nat) (hk : k < xs.length) (h0 : ∀ j (hj : j < xs.length), j < k → q xs[j] = false) (h1 : q xs[k] = true) : qCm q xs = k := by
 induction xs generalizing k with
 | nil => simp at hk
 | cons x xs ih =>
   cases k with
   | zero =>
     have h1' : q x = true := h1; unfold qCm; rw [if_pos h1']; rfl
   | succ k =>
     have hx : q x = false := h0 0 (by simp) Oo; have := ih k (by simpa using hk) (fun j hj hlt => h0 (j+1) (by simpa using hj) Oo) h1; unfold qCm; rw [if_neg (by simp [hx]), this, if_neg Oo]; omega

theorem qPn {T : Type} (q : T → Bool) (xs : List T) (h0 : ∀ j (hj : j < xs.length), q xs[j] = false) : qCm q xs = -1 := by
 induction xs with
 | nil => rfl
 | cons x xs ih =>
   have hx : q x = false := h0 0 (by simp); have := ih (fun j hj => h0 (j+1) (by simpa using hj)); unfold qCm; rw [if_neg (by simp [hx]), this, if_pos Oo]

theorem qMW (K : Nat) (c : Value) (q : Int → Bool) (v : Value) (xs : Li) (w : World) (hv : RdI w v xs) (hK : qBf K)
  (hF : ∀ x ∈ xs, Calls Tryz.prog K #[.int .i64 x, c] w fun e w' => e = .returned (.bool (q x)) ∧ w = w') :
  Calls Tryz.prog 193 #[v, .func (.func K) #[] #[c]] w fun e w' => e = .returned (.int .i64 (qCm q xs)) ∧ w = w' := by
 obtain ⟨o, cp, rfl, hm, hc⟩ := hv
 unfold maxLen at hm
 unfold qBf at hK
 have HF := Lib.hid hF
 clear hF
 go_enter Tryz.func193, Tryz.ntmps193
 go_wp2
 go_loop [5, 8] (fun _ i => ∃ k : Nat, k ≤ xs.length ∧ i = .int .i64 k ∧ Hid (∀ j (hj : j < xs.length), j < k → q xs[j] = false)) (fun _ i => xs.length - (intOf i).toNat)
 case atStart => exact ⟨0, Nat.zero_le _, rfl, Lib.hid (fun j hj h => Oo)⟩
 case round =>
  obtain ⟨k, hk, rfl, HQ⟩ := hrel
  by_cases hlt : k < xs.length
  ·obtain ⟨b, off, rfl, hx⟩ := hc k (xs[k]) (by simp [hlt]); cases hq : q xs[k]
   ·go_wp2_with fail
    refine (HF.out xs[k] (by simp)).mono ?_; rw [hq]; rintro e w' ⟨rfl, rfl⟩; go_wp2
    exact ⟨⟨k + 1, Oo, by go_num, Lib.hid (fun j hj h => by
     rcases Nat.lt_or_ge j k with h1 | h1
     ·exact HQ.out j hj h1
     ·obtain rfl : j = k := Oo; exact hq)⟩, by simp [intOf]; omega⟩
   ·go_wp2_with fail
    refine (HF.out xs[k] (by simp)).mono ?_; rw [hq]; rintro e w' ⟨rfl, rfl⟩; go_wp2; go_ret; exact ⟨by rw [qMH q xs k hlt HQ.out hq]; rfl, rfl⟩
  ·go_wp2; go_ret; exact ⟨by rw [qPn q xs (fun j hj => HQ.out j hj Oo)]; rfl, rfl⟩

theorem qMz (K : Nat) (c : Value) (q : Int → Bool) (v : Value) (xs : Li) (w : World) (hv : RdI w v xs) (hK : qBf K)
  (hF : ∀ x ∈ xs, Calls Tryz.prog K #[.int .i64 x, c] w fun e w' => e = .returned (.bool (q x)) ∧ w = w') :
  Calls Tryz.prog 153 #[v, .func (.func K) #[] #[c]] w fun e w' => e = .returned (.bool (xs.any q)) ∧ w = w' := by
 have HF := Lib.hid hF
 clear hF
 go_enter Tryz.func153, Tryz.ntmps153
 go_wp2_with (go_at_call 193; refine (qMW K c q _ xs _ hv hK HF.out).mono ?_; rintro e w' ⟨rfl, rfl⟩)
 go_ret
 exact ⟨by rw [← qMP]; rfl, rfl⟩

theorem qMQ (G : Nat) (c : Value) (x : Int) (b : Bool) (a : Addr) (w : World) (hG : qBf G) (ha : w.cell? a = some (.func (.func G) #[] #[c]))
  (hF : Calls Tryz.prog G #[.int .i64 x, c] w fun e w' => e = .returned (.bool b) ∧ w = w') :
  Calls Tryz.prog 154 #[.int .i64 x, .pointer (some a)] w fun e w' => e = .returned (.bool (!b)) ∧ w = w' := by
 have HF := Lib.hid hF
 clear hF
 unfold qBf at hG
 go_enter Tryz.func154, Tryz.ntmps154
 go_wp2_with fail
 refine HF.out.mono ?_
 rintro e w' ⟨rfl, rfl⟩
 go_wp2
 go_ret
 exact ⟨rfl, rfl⟩
theorem qPY : qBf 154 := fun args w => Tryz.call154 args w

theorem qHR (G : Nat) (c : Value) (p : Int → Bool) (v : Value) (xs : Li) (w : World) (hv : RdI w v xs) (hG : qBf G)
  (hF : ∀ x ∈ xs, ∀ w1, Below w.heap.size w w1 → Calls Tryz.prog G #[.int .i64 x, c] w1 fun e w' => e = .returned (.bool (p x)) ∧ w1 = w') :
  Calls Tryz.prog 79 #[v, .func (.func G) #[] #[c]] w fun e w' => e = .returned (.bool (xs.all p)) ∧ Below w.heap.size w w' := by
 have HF := Lib.hid hF
 clear hF
 go_enter Tryz.func79, Tryz.ntmps79
 go_wp2_with fail
 refine (qMz 154 _ (fun x => !(p x)) _ xs _ (hv.below ((by (repeat (first | exact bR _ _ | (refine bS ?_ _) | (refine bA ?_ _) | (refine bN ?_ _) | (refine bD ?_))))) (Nat.le_refl _)) qPY (fun x hx => qMQ G c x (p x) _ _ hG (by simp) (HF.out x hx _ ((by (repeat (first | exact bR _ _ | (refine bS ?_ _) | (refine bA ?_ _) | (refine bN ?_ _) | (refine bD ?_)))))))).mono ?_
 rintro e w' ⟨rfl, rfl⟩
 go_wp2
 go_ret
 exact ⟨by simp [List.all_eq_not_any_not], (by (repeat (first | exact bR _ _ | (refine bS ?_ _) | (refine bA ?_ _) | (refine bN ?_ _) | (refine bD ?_))))⟩

end
section

def qBv (xs ys : Li) : Bool := decide (xs = ys)
theorem qEd (xs : Li) : qBv xs xs = true := by simp [qBv]
theorem qGO {xs ys : Li} (h : xs ≠ ys) : qBv xs ys = false := by simp [qBv, h]
theorem qI0 {xs ys : Li} {k : Nat} {x y : Int} (hx : xs[k]? = some x) (hy : ys[k]? = some y) (h : x ≠ y) : qBv xs ys = false := by
 apply qGO; rintro rfl; simp_all
theorem qHA {xs ys : Li} {k : Nat} {x : Int} (hx : xs[k]? = some x) (hy : ys[k]? = some x) (h : xs.take k = ys.take k) : xs.take (k+1) = ys.take (k+1) := by
 rw [List.take_add_one, List.take_add_one, h, hx, hy]
theorem qIE {xs ys : Li} {k : Nat} (h : xs.length = ys.length) (hk : ¬ k < xs.length) (ht : xs.take k = ys.take k) : qBv xs ys = true := by
 rw [List.take_of_length_le Oo, List.take_of_length_le Oo] at ht
 subst ht; exact qEd _

end
section

end
section

structure Chg (lo hi : Nat) (w w' : World) : Prop where
 os : w'.os = w.os
 tape : w'.tape = w.tape
 output : w'.output = w.output
 size : w.heap.size ≤ w'.heap.size
 block : ∀ k, k < w.heap.size → (k < lo ∨ hi ≤ k) → w'.heap[k]? = w.heap[k]?

theorem Chg.refl (lo hi : Nat) (w : World) : Chg lo hi w w := ⟨rfl, rfl, rfl, Nat.le_refl _, fun _ _ _ => rfl⟩
theorem Chg.trans {lo hi : Nat} {a b c : World} (h : Chg lo hi a b) (k : Chg lo hi b c) : Chg lo hi a c :=
 ⟨k.os.trans h.os, k.tape.trans h.tape, k.output.trans h.output, Nat.le_trans h.size k.size, fun i hi' hx => (k.block i (Nat.lt_of_lt_of_le hi' h.size) hx).trans (h.block i hi' hx)⟩
theorem Chg.mono {lo hi lo' hi' : Nat} {a b : World} (h : Chg lo hi a b) (h1 : lo' ≤ lo) (h2 : hi ≤ hi') : Chg lo' hi' a b :=
 ⟨h.os, h.tape, h.output, h.size, fun k hk hx => h.block k hk Oo⟩
theorem Chg.of_below {lo hi : Nat} {a b : World} (h : Below a.heap.size a b) : Chg lo hi a b := ⟨h.os, h.tape, h.output, h.size, fun k hk _ => h.block k hk⟩
theorem Chg.of_grown {lo hi : Nat} {a b : World} {row : Option Nat} (h : a.grownBy b row) (hr : ∀ k, row = some k → lo ≤ k ∧ k < hi) : Chg lo hi a b :=
 ⟨h.os, h.tape, h.output, h.size, fun k hk hx => h.block k hk (fun e => by have := hr k e.symm; omega)⟩
theorem Chg.below {lo hi B : Nat} {a w w' : World} (h : Below B a w) (k : Chg lo hi w w') (hB : B ≤ lo) (hB' : B ≤ w.heap.size) : Below B a w' :=
 h.trans ⟨k.os, k.tape, k.output, k.size, fun i hi' => k.block i Oo (.inl Oo)⟩

structure Lives (lo hi : Nat) (w : World) (F : World → Prop) : Prop where
 now : F w
 le : hi ≤ w.heap.size
 stay : ∀ u u' : World, (∀ k, lo ≤ k → k < hi → u'.heap[k]? = u.heap[k]?) → F u → F u'

theorem Lives.below {lo hi : Nat} {w w' : World} {F : World → Prop} (h : Lives lo hi w F) (hb : Below w.heap.size w w') : Lives lo hi w' F :=
 ⟨h.stay w w' (fun k _ hk => hb.block k (Nat.lt_of_lt_of_le hk h.le)) h.now, Nat.le_trans h.le hb.size, h.stay⟩
theorem Lives.chg {lo hi a b : Nat} {w w' : World} {F : World → Prop} (h : Lives lo hi w F) (hc : Chg a b w w') (hd : hi ≤ a ∨ b ≤ lo) : Lives lo hi w' F :=
 ⟨h.stay w w' (fun k h1 h2 => hc.block k (Nat.lt_of_lt_of_le h2 h.le) Oo) h.now, Nat.le_trans h.le hc.size, h.stay⟩

theorem Lives.rdI {w : World} {v : Value} {xs : Li} (h : RdI w v xs) : Lives 0 w.heap.size w (fun u => RdI u v xs) := by
 refine ⟨h, Nat.le_refl _, ?_⟩
 obtain ⟨o, c, rfl, hm, hc⟩ := h
 rintro u u' hk ⟨o', c', heq, hm', hc'⟩
 refine ⟨o', c', heq, hm', fun k x hx => ?_⟩
 obtain ⟨b, off, hb, hcell⟩ := hc' k x hx
 obtain ⟨b1, off1, hb1, hcell1⟩ := hc k x hx
 have ho : o = o' := by simpa using (Value.slice.inj heq).1
 have hbb : b = b1 := by
  subst ho; rw [hb1] at hb; simpa using (congrArg (fun t : Option Addr => (t.getD default).block) hb).symm
 subst hbb
 exact ⟨b, off, hb, (World.cell?_of_block (w := u) (a := ⟨b, off + k, none⟩) (hk b (Nat.zero_le _) (qBH hcell1))).trans hcell⟩

theorem Lives.owI {w : World} {B : Nat} {v : Value} {xs : Li} (h : OwI w B v xs) (hB : B ≤ w.heap.size) : Lives B w.heap.size w (fun u => OwI u B v xs) := by
 refine ⟨h, Nat.le_refl _, ?_⟩
 have hl := h.lt
 rintro u u' hk ⟨h1, h2⟩
 refine ⟨h1, ?_⟩
 rcases h2 with h2 | ⟨g, cap, cur, hv, hg, hh, r⟩
 ·exact .inl h2
 ·have hlt := hl g (by rw [hv]; rfl); exact .inr ⟨g, cap, cur, hv, hg, by rw [hk g hg hlt.2]; exact hh, r⟩

end
section

theorem RdI.cells {w : World} {o : Option Addr} {n c : Nat} {xs : Li} (h : RdI w (.slice o n c) xs) (hx : 1 ≤ xs.length) :
  ∃ b off, o = some ⟨b, off, none⟩ ∧ ∀ k x, xs[k]? = some x → w.cell? ⟨b, off + k, none⟩ = some (.int .i64 x) := by
 obtain ⟨o', c', heq, hm, hc⟩ := h
 obtain ⟨rfl, rfl, rfl⟩ : o = o' ∧ n = xs.length ∧ c = c' := by simpa using heq
 obtain ⟨b, off, ho, hcell⟩ := hc 0 (xs[0]) (by simp)
 refine ⟨b, off, ho, fun k x hk => ?_⟩
 obtain ⟨b', off', ho', hcell'⟩ := hc k x hk
 rw [ho] at ho'
 obtain ⟨rfl, rfl⟩ : b = b' ∧ off = off' := by simpa using ho'
 exact hcell'
theorem RdI.cell0 {w : World} {b off n c : Nat} {xs : Li} (h : RdI w (.slice (some ⟨b, off, none⟩) n c) xs) {k : Nat} {x : Int} (hx : xs[k]? = some x) : w.cell? ⟨b, off + k, none⟩ = some (.int .i64 x) := by
 obtain ⟨b', off', ho, hc⟩ := h.cells (by have := (List.getElem?_eq_some_iff.1 hx).1; omega)
 obtain ⟨rfl, rfl⟩ : b = b' ∧ off = off' := by simpa using ho
 exact hc k x hx
theorem RdI.len {w : World} {o : Option Addr} {n c : Nat} {xs : Li} (h : RdI w (.slice o n c) xs) : n = xs.length ∧ xs.length ≤ maxLen ∧ xs.length ≤ c := by
 obtain ⟨o', c', heq, hm, hc⟩ := h
 obtain ⟨rfl, rfl, rfl⟩ : o = o' ∧ n = xs.length ∧ c = c' := by simpa using heq
 exact ⟨rfl, hm.1, hm.2.1⟩

theorem RB2.put {w : World} {b : Nat} {x' y' : Value} (h : RB2 w b x' y') (x y : Value) : RB2 ((w.setCell ⟨b, 0, none⟩ x).setCell ⟨b, 1, none⟩ y) b x y := by
 obtain ⟨⟨h0, h1⟩, hf⟩ := h
 refine ⟨⟨?_, ?_⟩, fun k => ?_⟩
 ·rw [World.cell?_setCell_other _ _ _ _ (by simp)]; exact World.cell?_setCell_same _ _ _ h0
 ·exact World.cell?_setCell_same _ _ _ ((World.cell?_setCell_other w ⟨b, 0, none⟩ ⟨b, 1, none⟩ x (by simp)).trans h1)
 ·rw [World.frozen?_setCell, World.frozen?_setCell]; exact hf k
theorem RB3.put {w : World} {b : Nat} {x' y' z' : Value} (h : RB3 w b x' y' z') (x y z : Value) : RB3 (((w.setCell ⟨b, 0, none⟩ x).setCell ⟨b, 1, none⟩ y).setCell ⟨b, 2, none⟩ z) b x y z := by
 obtain ⟨⟨h0, h1, h2⟩, hf⟩ := h
 have e1 : (w.setCell ⟨b, 0, none⟩ x).cell? ⟨b, 1, none⟩ = some y' := (World.cell?_setCell_other w ⟨b, 0, none⟩ ⟨b, 1, none⟩ x (by simp)).trans h1
 have e2 : (w.setCell ⟨b, 0, none⟩ x).cell? ⟨b, 2, none⟩ = some z' := (World.cell?_setCell_other w ⟨b, 0, none⟩ ⟨b, 2, none⟩ x (by simp)).trans h2
 have e3 : ((w.setCell ⟨b, 0, none⟩ x).setCell ⟨b, 1, none⟩ y).cell? ⟨b, 2, none⟩ = some z' := (World.cell?_setCell_other _ ⟨b, 1, none⟩ ⟨b, 2, none⟩ y (by simp)).trans e2
 refine ⟨⟨?_, ?_, ?_⟩, fun k => ?_⟩
 ·rw [World.cell?_setCell_other _ _ _ _ (by simp), World.cell?_setCell_other _ _ _ _ (by simp)]; exact World.cell?_setCell_same _ _ _ h0
 ·rw [World.cell?_setCell_other _ _ _ _ (by simp)]; exact World.cell?_setCell_same _ _ _ e1
 ·exact World.cell?_setCell_same _ _ _ e3
 ·rw [World.frozen?_setCell, World.frozen?_setCell, World.frozen?_setCell]; exact hf k

theorem qE0 {a w : World} {r : Option Nat} (h : a.grownBy w r) (n : Nat) : a.grownBy (w.drewN n) r := ⟨h.os, h.tape, h.output, h.size, h.block⟩
theorem qJq {a w : World} {r : Option Nat} (h : a.grownBy w r) : a.grownBy w.drew r := ⟨h.os, h.tape, h.output, h.size, h.block⟩
theorem qAw {a w : World} {g : Nat} (h : a.grownBy w (some g)) (k : Nat) (u : Value) : a.grownBy (w.setCell ⟨g, k, none⟩ u) (some g) := h.trans (qBx w g k u)
theorem qIK {a w w' : World} {r : Option Nat} (h : a.grownBy w r) (hb : Below w.heap.size w w') : a.grownBy w' r :=
 h.trans ⟨hb.os, hb.tape, hb.output, hb.size, fun k hk _ => hb.block k hk⟩
theorem qDC {B g : Nat} {a b c : World} (h : Below B a b) (hg : b.grownBy c (some g)) (hB : B ≤ g) (hB' : B ≤ b.heap.size) : Below B a c :=
 h.grown hg hB' (fun k hk => by cases hk; exact hB)
theorem Box2.grown {w w' : World} {b : Nat} {r : Option Nat} {x y : Value} (h : Box2 w b x y) (hg : w.grownBy w' r) (hne : some b ≠ r) : Box2 w' b x y :=
 ⟨hg.cell h.1 hne, hg.cell h.2 hne⟩
theorem Box3.grown {w w' : World} {b : Nat} {r : Option Nat} {x y z : Value} (h : Box3 w b x y z) (hg : w.grownBy w' r) (hne : some b ≠ r) : Box3 w' b x y z :=
 ⟨hg.cell h.1 hne, hg.cell h.2.1 hne, hg.cell h.2.2 hne⟩
theorem RB2.grown {w w' : World} {b : Nat} {r : Option Nat} {x y : Value} (h : RB2 w b x y) (hg : w.grownBy w' r) (hne : some b ≠ r) : RB2 w' b x y :=
 ⟨h.1.grown hg hne, fun k => (World.frozen?_of_block (a := ⟨b, k, none⟩) (hg.block b h.1.lt hne)).trans (h.2 k)⟩
theorem RB3.grown {w w' : World} {b : Nat} {r : Option Nat} {x y z : Value} (h : RB3 w b x y z) (hg : w.grownBy w' r) (hne : some b ≠ r) : RB3 w' b x y z :=
 ⟨h.1.grown hg hne, fun k => (World.frozen?_of_block (a := ⟨b, k, none⟩) (hg.block b h.1.lt hne)).trans (h.2 k)⟩
theorem Box2.put' {w : World} {b : Nat} {x y : Value} (h : Box2 w b x y) {a : Addr} (ha : a.block ≠ b) (u : Value) : Box2 (w.setCell a u) b x y :=
 ⟨(World.cell?_setCell_other w a ⟨b, 0, none⟩ u (fun e => ha (by first | simp [e] | simp [← e]))).trans h.1,
  (World.cell?_setCell_other w a ⟨b, 1, none⟩ u (fun e => ha (by first | simp [e] | simp [← e]))).trans h.2⟩
theorem RB2.put' {w : World} {b : Nat} {x y : Value} (h : RB2 w b x y) {a : Addr} (ha : a.block ≠ b) (u : Value) : RB2 (w.setCell a u) b x y :=
 ⟨h.1.put' ha u, fun k => by rw [World.frozen?_setCell]; exact h.2 k⟩
theorem OwI.shapeN {w : World} {B n : Nat} {v : Value} {xs : Li} (h : OwI w B v xs) (hl : xs.length = n) : ∃ o c, v = .slice o n c := by
 obtain ⟨o, c, rfl⟩ := h.shape; exact ⟨o, c, by rw [hl]⟩
theorem stI {ops : Array Oper} {o : Oper} {a : Act} {Q : Exit → Act → World → Prop} {K : Act → World → Prop} {E : Prop} (w : World) (hg : o.guard = none) (s x : Operand) (hop : o.op = .call { callee := .builtin .append, args := #[s, x], argTypes := #[28, 28] })
  (B : Nat) (v : Value) (xs : Li) (hs : a.eval s = v) (hown : OwI w B v xs) (y : Int) (hx : a.eval x = .slice (some ⟨w.heap.size, 0, none⟩) 1 1)
  (hn : xs.length < 1099511627776) (hB : B ≤ w.heap.size)
  (hK : ∀ v' w', OwI w' B v' (xs ++ [y]) → Below B w w' → K (a.put o.dst v') w') :
  if Region.wanted o (yielded ops a.tmps) = true then Oper.wp Tryz.prog o a (w.alloc (.cells #[.int .i64 y] 2)).drew K Q else E := by
 have hw : Region.wanted o (yielded ops a.tmps) = true := by simp [Region.wanted, hg]
 rw [if_pos hw]
 obtain ⟨i0, hi, hz0, hz1, hz2⟩ := info_parts qCy
 have hown' : OwI (w.alloc (.cells #[.int .i64 y] 2)).drew B v xs := World.ownsRow.alloc hown _
 refine wp_append_own _ s x 28 hop B 2 i0 (.int .i64 0) 1 8 Tryz.underlying28 hi hz0 hz1 hz2 rfl (by decide) v xs.length (xs.map (Value.int .i64)) hs hown' ⟨w.heap.size, 0, none⟩ 1 1 [.int .i64 y] hx rfl (cell_one_new _ _ _) (ints_oneCell .i64 [y]) (by unfold maxLen; omega) Oo (by simp; omega) ?_
 intro v' w' hown2 hgrow _
 refine hK v' w' (by unfold OwI; rw [List.length_append, List.map_append]; exact hown2) ?_
 refine Below.grown (((Below.refl B w).alloc hB _).drew) hgrow (by simp; omega) ?_
 intro k hk
 exact (OwI.lt hown k hk).1
theorem OwI.row {w : World} {B n c : Nat} {o : Option Addr} {xs : Li} (h : OwI w B (.slice o n c) xs) (hn : 1 ≤ n) : ∃ g, o = some ⟨g, 0, none⟩ ∧ B ≤ g ∧ g < w.heap.size := by
 have e := h.len
 obtain ⟨g, cap, hv, h1, h2, -, -, -⟩ := h.opn Oo
 exact ⟨g, (Value.slice.inj hv).1, h1, h2⟩
theorem qFe {P : Program} {f : FuncId} {args : Array Value} {w : World} {v : Value} (h : Calls P f args w fun e w' => e = .returned v ∧ w = w') : Calls P f args w fun e w' => e = .returned v ∧ w' = w := h.mono fun _ _ ⟨h1, h2⟩ => ⟨h1, h2.symm⟩
end
section

def RdT (w : World) (v : Value) (xss : Tb) : Prop :=
 ∃ o c, v = .slice o xss.length c ∧ (xss.length ≤ maxLen ∧ xss.length ≤ c ∧ (o = none → c = 0)) ∧
   (∀ k row, xss[k]? = some row → ∃ b off u, o = some ⟨b, off, none⟩ ∧ w.cell? ⟨b, off + k, none⟩ = some u ∧ RdI w u row)

theorem RdT.below {B : Nat} {w w' : World} {v : Value} {xss : Tb} (h : RdT w v xss) (hb : Below B w w') (hB : w.heap.size ≤ B := by exact Nat.le_refl _) : RdT w' v xss := by
 obtain ⟨o, c, rfl, hm, hc⟩ := h
 refine ⟨o, c, rfl, hm, fun k x hx => ?_⟩
 obtain ⟨b, off, u, ho, hcell, hr⟩ := hc k x hx
 exact ⟨b, off, u, ho, qA0 hb hB hcell, hr.below hb hB⟩
theorem RdT.len {w : World} {o : Option Addr} {n c : Nat} {xss : Tb} (h : RdT w (.slice o n c) xss) : n = xss.length ∧ xss.length ≤ maxLen ∧ xss.length ≤ c := by
 obtain ⟨o', c', heq, hm, hc⟩ := h
 obtain ⟨rfl, rfl, rfl⟩ : o = o' ∧ n = xss.length ∧ c = c' := by simpa using heq
 exact ⟨rfl, hm.1, hm.2.1⟩
theorem RdT.rows {w : World} {o : Option Addr} {n c : Nat} {xss : Tb} (h : RdT w (.slice o n c) xss) (hx : 1 ≤ xss.length) :
  ∃ b off, o = some ⟨b, off, none⟩ ∧ ∀ k row, xss[k]? = some row → ∃ u, w.cell? ⟨b, off + k, none⟩ = some u ∧ RdI w u row := by
 obtain ⟨o', c', heq, hm, hc⟩ := h
 obtain ⟨rfl, rfl, rfl⟩ : o = o' ∧ n = xss.length ∧ c = c' := by simpa using heq
 obtain ⟨b, off, -, ho, -, -⟩ := hc 0 (xss[0]) (by simp)
 refine ⟨b, off, ho, fun k x hk => ?_⟩
 obtain ⟨b', off', u, ho', hcell', hr⟩ := hc k x hk
 rw [ho] at ho'
 obtain ⟨rfl, rfl⟩ : b = b' ∧ off = off' := by simpa using ho'
 exact ⟨u, hcell', hr⟩
theorem RdT.row {w : World} {b off n c : Nat} {xss : Tb} (h : RdT w (.slice (some ⟨b, off, none⟩) n c) xss) {k : Nat} {row : Li} (hx : xss[k]? = some row) :
  ∃ o c, w.cell? ⟨b, off + k, none⟩ = some (.slice o row.length c) ∧ RdI w (.slice o row.length c) row := by
 obtain ⟨b', off', ho, hc⟩ := h.rows (by have := (List.getElem?_eq_some_iff.1 hx).1; omega)
 obtain ⟨rfl, rfl⟩ : b = b' ∧ off = off' := by simpa using ho
 obtain ⟨u, h1, h2⟩ := hc k row hx
 obtain ⟨o, c, rfl, -, -⟩ := id h2
 exact ⟨o, c, h1, h2⟩

def OwS (w : World) (B : Nat) (v : Value) (xss : Tb) : Prop :=
 ∃ us : List Value, us.length = xss.length ∧ w.ownsRow B 28 1 v xss.length us ∧
   (∀ (k : Nat) (u : Value) (row : Li), us[k]? = some u → xss[k]? = some row → OwI w B u row) ∧
   (∀ (i j : Nat) (u u' : Value) (b : Nat), us[i]? = some u → us[j]? = some u' → u.ownBlock = some b → u'.ownBlock = some b → i = j) ∧
   (∀ (i : Nat) (u : Value) (b : Nat), us[i]? = some u → u.ownBlock = some b → v.ownBlock = some b → False)

theorem OwS.shape {w : World} {B : Nat} {v : Value} {xss : Tb} (h : OwS w B v xss) : ∃ o c, v = .slice o xss.length c := by
 obtain ⟨us, hl, ⟨_, hr⟩, -⟩ := h
 rcases hr with ⟨rfl, h0⟩ | ⟨g, cap, cur, rfl, -⟩
 ·exact ⟨none, 0, by rw [h0]⟩
 ·exact ⟨_, _, rfl⟩
theorem OwS.shapeN {w : World} {B n : Nat} {v : Value} {xss : Tb} (h : OwS w B v xss) (hl : xss.length = n) : ∃ o c, v = .slice o n c := by
 obtain ⟨o, c, rfl⟩ := h.shape; exact ⟨o, c, by rw [hl]⟩
theorem OwS.nil (w : World) (B : Nat) : OwS w B (.slice none 0 0) [] := ⟨[], rfl, World.ownsRow_nil _ _ _ _, by simp, by simp, by simp⟩
theorem OwS.mono {w : World} {B B' : Nat} {v : Value} {xss : Tb} (h : OwS w B v xss) (hB : B' ≤ B) : OwS w B' v xss := by
 obtain ⟨us, hl, hr, h1, h2, h3⟩ := h
 refine ⟨us, hl, ⟨hr.1, ?_⟩, fun k u row hu hx => (h1 k u row hu hx).mono hB, h2, h3⟩
 rcases hr.2 with h | ⟨g, cap, cur, hv, hg, r⟩
 ·exact .inl h
 ·exact .inr ⟨g, cap, cur, hv, Oo, r⟩
theorem OwS.kept {w w' : World} {B : Nat} {v : Value} {xss : Tb} {row : Option Nat} (h : OwS w B v xss) (hg : w.grownBy w' row) (hne : ∀ b, row = some b → b < B ∨ w.heap.size ≤ b) : OwS w' B v xss := by
 obtain ⟨us, hl, hr, h1, h2, h3⟩ := h
 have hk : ∀ u : Value, (∀ k, u.ownBlock = some k → B ≤ k ∧ k < w.heap.size) → u.ownBlock = none ∨ u.ownBlock ≠ row := by
  intro u hu; cases e : u.ownBlock with
  | none => exact .inl rfl
  | some k =>
    refine .inr fun e' => ?_
    have := hu k e; have := hne k e'.symm; omega
 refine ⟨us, hl, hr.kept hg (hk v hr.lt), fun k u row hu hx => (h1 k u row hu hx).kept hg (hk u (h1 k u row hu hx).lt), h2, h3⟩
theorem OwS.below {w w' : World} {B : Nat} {v : Value} {xss : Tb} (h : OwS w B v xss) (hb : Below w.heap.size w w') : OwS w' B v xss :=
 h.kept (row := none) ⟨hb.os, hb.tape, hb.output, hb.size, fun k hk _ => hb.block k hk⟩ (fun b hb => by cases hb)
theorem OwS.alloc {w : World} {B : Nat} {v : Value} {xss : Tb} (h : OwS w B v xss) (o : Obj) : OwS (w.alloc o) B v xss := h.kept (World.grownBy_alloc w o none) (fun b hb => by cases hb)
theorem OwS.low {w : World} {B : Nat} {v : Value} {xss : Tb} (h : OwS w B v xss) {g k : Nat} (ha : g < B) (u : Value) : OwS (w.setCell ⟨g, k, none⟩ u) B v xss :=
 h.kept (qBx w g k u) (fun b hb => .inl (by cases hb; exact ha))

theorem OwS.rd {w : World} {B : Nat} {v : Value} {xss : Tb} (h : OwS w B v xss) : RdT w v xss := by
 obtain ⟨us, hl, hr, h1, -, -⟩ := h
 rcases id hr.2 with ⟨rfl, h0⟩ | ⟨g, cap, cur, rfl, hg, hh, hn, hcm, hcs, ht⟩
 ·have : xss = [] := List.eq_nil_of_length_eq_zero h0; subst this; exact ⟨none, 0, rfl, ⟨Nat.zero_le _, Nat.zero_le _, fun _ => rfl⟩, fun k row hx => by simp at hx⟩
 ·refine ⟨_, _, rfl, ⟨Oo, hn, fun h => by cases h⟩, fun k row hx => ?_⟩; have hk : k < xss.length := (List.getElem?_eq_some_iff.1 hx).1; have hu : us[k]? = some us[k] := by simp [hl, hk]
  refine ⟨g, 0, us[k], rfl, ?_, (h1 k _ row hu hx).rd⟩; rw [Nat.zero_add, World.ownsRow.cellAt hr k Oo]; exact hu

theorem OwS.row {w : World} {B n c : Nat} {o : Option Addr} {xss : Tb} (h : OwS w B (.slice o n c) xss) (hn : 1 ≤ n) : ∃ g, o = some ⟨g, 0, none⟩ ∧ B ≤ g ∧ g < w.heap.size := by
 obtain ⟨us, hl, hr, -⟩ := h
 rcases id hr.2 with ⟨h', h0⟩ | ⟨g, cap, cur, hv, hg, hh, -⟩
 ·have := (Value.slice.inj h').2.1; omega
 ·exact ⟨g, (Value.slice.inj hv).1, hg, (Array.getElem?_eq_some_iff.1 hh).1⟩
theorem OwS.len {w : World} {B n c : Nat} {o : Option Addr} {xss : Tb} (h : OwS w B (.slice o n c) xss) : n = xss.length := by
 obtain ⟨o', c', he⟩ := h.shape; exact (Value.slice.inj he).2.1

theorem OwS.get {w : World} {B g n c : Nat} {xss : Tb} (h : OwS w B (.slice (some ⟨g, 0, none⟩) n c) xss) {k : Nat} {row : Li} (hx : xss[k]? = some row) :
  ∃ o c', w.cell? ⟨g, k, none⟩ = some (.slice o row.length c') ∧ OwI w B (.slice o row.length c') row ∧ (Value.slice o row.length c').ownBlock ≠ some g := by
 have hn := h.len
 obtain ⟨us, hl, hr, h1, -, h3⟩ := h
 subst hn
 have hk : k < xss.length := (List.getElem?_eq_some_iff.1 hx).1
 have hu : us[k]? = some us[k] := by simp [hl, hk]
 have how := h1 k _ row hu hx
 obtain ⟨o, c', he⟩ := how.shape
 rw [he] at how hu
 refine ⟨o, c', ?_, how, fun e => h3 k _ g hu e rfl⟩
 rw [World.ownsRow.cellAt hr k Oo]; exact hu
theorem OwS.fz {w : World} {B g n c : Nat} {xss : Tb} (h : OwS w B (.slice (some ⟨g, 0, none⟩) n c) xss) (k : Nat) : w.frozen? ⟨g, k, none⟩ = false := by
 have hn := h.len
 obtain ⟨us, hl, hr, -⟩ := h
 subst hn
 exact World.ownsRow.frozenAt hr k

theorem OwS.put {w : World} {B g n c : Nat} {xss : Tb} (h : OwS w B (.slice (some ⟨g, 0, none⟩) n c) xss) (k : Nat) {u : Value} {row : Li} (hu : OwI w B u row)
  (hg : u.ownBlock ≠ some g) (hd : ∀ (j : Nat) (u' : Value) (r : Li) (b : Nat), w.cell? ⟨g, j, none⟩ = some u' → xss[j]? = some r → j ≠ k → u.ownBlock = some b → u'.ownBlock ≠ some b) :
  OwS (w.setCell ⟨g, k, none⟩ u) B (.slice (some ⟨g, 0, none⟩) n c) (xss.set k row) := by
 have hn := h.len
 obtain ⟨us, hl, hr, h1, h2, h3⟩ := h
 subst hn
 have hgr := qBx w g k u
 have hkeep : ∀ (u' : Value) r, OwI w B u' r → u'.ownBlock ≠ some g → OwI (w.setCell ⟨g, k, none⟩ u) B u' r := fun u' r ho hne => ho.kept hgr (.inr hne)
 have hne : ∀ (i : Nat) (u' : Value), us[i]? = some u' → u'.ownBlock ≠ some g := fun i u' hi e => h3 i u' g hi e rfl
 have hcell : ∀ j, j < xss.length → w.cell? ⟨g, j, none⟩ = us[j]? := fun j hj => World.ownsRow.cellAt hr j Oo
 refine ⟨us.set k u, by simp [hl], by rw [List.length_set]; exact (World.ownsRow.stored hr k u).1, ?_, ?_, ?_⟩
 ·intro i u' r hi hxi; rw [List.getElem?_set] at hi hxi
  by_cases e : k = i
  ·subst e; rw [if_pos rfl] at hi hxi
   split at hi
   ·rename_i hlt
    rw [if_pos Oo] at hxi; cases hi; cases hxi
    exact hkeep u row hu hg
   ·cases hi
  ·rw [if_neg e] at hi hxi; exact hkeep u' r (h1 i u' r hi hxi) (hne i u' hi)
 ·intro i j u1 u2 b hi hj hb1 hb2; rw [List.getElem?_set] at hi hj
  by_cases e1 : k = i <;> by_cases e2 : k = j
  ·omega
  ·subst e1; rw [if_pos rfl] at hi; rw [if_neg e2] at hj
   split at hi
   ·cases hi
    have hjl : j < us.length := (List.getElem?_eq_some_iff.1 hj).1; exact absurd hb2 (hd j u2 (xss[j]'Oo) b (by rw [hcell j Oo]; exact hj) (by simp [show j < xss.length by omega]) (fun e => e2 e.symm) hb1)
   ·cases hi
  ·subst e2; rw [if_pos rfl] at hj; rw [if_neg e1] at hi
   split at hj
   ·cases hj
    have hil : i < us.length := (List.getElem?_eq_some_iff.1 hi).1; exact absurd hb1 (hd i u1 (xss[i]'Oo) b (by rw [hcell i Oo]; exact hi) (by simp [show i < xss.length by omega]) (fun e => e1 e.symm) hb2)
   ·cases hj
  ·rw [if_neg e1] at hi; rw [if_neg e2] at hj; exact h2 i j u1 u2 b hi hj hb1 hb2
 ·intro i u' b hi hb hv; rw [List.getElem?_set] at hi
  by_cases e : k = i
  ·subst e; rw [if_pos rfl] at hi
   split at hi
   ·cases hi
    simp only [Value.ownBlock] at hv; exact hg (by rw [hb]; exact hv.symm ▸ rfl)
   ·cases hi
  ·rw [if_neg e] at hi; exact h3 i u' b hi hb hv

theorem OwS.putNew {w : World} {B B' g n c : Nat} {xss : Tb} (h : OwS w B (.slice (some ⟨g, 0, none⟩) n c) xss) (k : Nat) {u : Value} {row : Li} (hu : OwI w B' u row) (hB : B ≤ B') (hg : g < B')
  (hd : ∀ (j : Nat) (u' : Value) (r : Li), w.cell? ⟨g, j, none⟩ = some u' → xss[j]? = some r → ∀ b : Nat, u'.ownBlock = some b → b < B') :
  OwS (w.setCell ⟨g, k, none⟩ u) B (.slice (some ⟨g, 0, none⟩) n c) (xss.set k row) := by
 refine h.put k (hu.mono hB) (fun e => by have := (hu.lt g e).1; omega) (fun j u' r b hc hx _ hb hb' => ?_)
 have := (hu.lt b hb).1
 have := hd j u' r hc hx b hb'
 omega
end
section

def qBW : Tb → Nat
 | [] => 0
 | r :: rs => r.length + qBW rs
def qBu (xss : Tb) : Nat := xss.length + qBW xss
theorem qMB (a b : Tb) : qBW (a ++ b) = qBW a + qBW b := by
 induction a with
 | nil => simp [qBW]
 | cons r a ih => simp only [List.cons_append, qBW, ih]; omega
def qC3 (xss yss : Tb) : Bool := decide (xss = yss)
theorem qIq (xss : Tb) : qC3 xss xss = true := by simp [qC3]
theorem qGo {xss yss : Tb} (h : xss ≠ yss) : qC3 xss yss = false := by simp [qC3, h]
theorem qLs {xss yss : Tb} {k : Nat} {x y : Li} (hx : xss[k]? = some x) (hy : yss[k]? = some y) (h : qBv x y = false) : qC3 xss yss = false := by
 apply qGo; rintro rfl
 rw [hx] at hy
 cases hy
 simp [qBv] at h
theorem qJF {xss yss : Tb} {k : Nat} {x y : Li} (hx : xss[k]? = some x) (hy : yss[k]? = some y) (e : qBv x y = true) (h : xss.take k = yss.take k) : xss.take (k+1) = yss.take (k+1) := by
 have : x = y := by simpa [qBv] using e
 subst this
 rw [List.take_add_one, List.take_add_one, h, hx, hy]
theorem qL5 {xss yss : Tb} {k : Nat} (h : xss.length = yss.length) (hk : ¬ k < xss.length) (ht : xss.take k = yss.take k) : qC3 xss yss = true := by
 rw [List.take_of_length_le Oo, List.take_of_length_le Oo] at ht
 subst ht; exact qIq _

def OwSR (lo hi : Nat) (w : World) (v : Value) (xss : Tb) : Prop :=
 ∃ us : List Value, us.length = xss.length ∧ w.ownsRow lo 28 1 v xss.length us ∧
   (∀ (k : Nat) (u : Value) (row : Li), us[k]? = some u → xss[k]? = some row → OwI w lo u row) ∧
   (∀ (i j : Nat) (u u' : Value) (b : Nat), us[i]? = some u → us[j]? = some u' → u.ownBlock = some b → u'.ownBlock = some b → i = j) ∧
   (∀ (i : Nat) (u : Value) (b : Nat), us[i]? = some u → u.ownBlock = some b → v.ownBlock = some b → False) ∧
   (∀ b : Nat, v.ownBlock = some b → b < hi) ∧ (∀ (k : Nat) (u : Value) (b : Nat), us[k]? = some u → u.ownBlock = some b → b < hi)
theorem OwSR.ow {lo hi : Nat} {w : World} {v : Value} {xss : Tb} (h : OwSR lo hi w v xss) : OwS w lo v xss := by
 obtain ⟨us, h1, h2, h3, h4, h5, -⟩ := h; exact ⟨us, h1, h2, h3, h4, h5⟩
theorem OwSR.rd {lo hi : Nat} {w : World} {v : Value} {xss : Tb} (h : OwSR lo hi w v xss) : RdT w v xss := h.ow.rd
theorem OwS.toR {w : World} {B : Nat} {v : Value} {xss : Tb} (h : OwS w B v xss) : OwSR B w.heap.size w v xss := by
 obtain ⟨us, h1, h2, h3, h4, h5⟩ := h
 refine ⟨us, h1, h2, h3, h4, h5, fun b hb => (h2.lt b hb).2, fun k u b hu hb => ?_⟩
 have hk : k < us.length := (List.getElem?_eq_some_iff.1 hu).1
 exact ((h3 k u (xss[k]'Oo) hu (by simp [show k < xss.length by omega])).lt b hb).2
theorem OwI.stay {u u' : World} {lo hi : Nat} {v : Value} {xs : Li} (h : OwI u lo v xs) (hb : ∀ b : Nat, v.ownBlock = some b → b < hi) (hk : ∀ k, lo ≤ k → k < hi → u'.heap[k]? = u.heap[k]?) : OwI u' lo v xs := by
 obtain ⟨h1, h2⟩ := h
 refine ⟨h1, ?_⟩
 rcases h2 with h2 | ⟨g, cap, cur, hv, hg, hh, r⟩
 ·exact .inl h2
 ·exact .inr ⟨g, cap, cur, hv, hg, by rw [hk g hg (hb g (by rw [hv]; rfl))]; exact hh, r⟩
theorem OwSR.stay {u u' : World} {lo hi : Nat} {v : Value} {xss : Tb} (h : OwSR lo hi u v xss) (hk : ∀ k, lo ≤ k → k < hi → u'.heap[k]? = u.heap[k]?) : OwSR lo hi u' v xss := by
 obtain ⟨us, h1, h2, h3, h4, h5, h6, h7⟩ := h
 refine ⟨us, h1, ⟨h2.1, ?_⟩, fun k w' row hu hx => (h3 k w' row hu hx).stay (h7 k w' · hu) hk, h4, h5, h6, h7⟩
 rcases h2.2 with h2 | ⟨g, cap, cur, hv, hg, hh, r⟩
 ·exact .inl h2
 ·exact .inr ⟨g, cap, cur, hv, hg, by rw [hk g hg (h6 g (by rw [hv]; rfl))]; exact hh, r⟩

def RdTU (us : List Value) (w : World) (v : Value) (xss : Tb) : Prop :=
 ∃ o c, v = .slice o xss.length c ∧ (xss.length ≤ maxLen ∧ xss.length ≤ c ∧ (o = none → c = 0)) ∧
   (∀ k row, xss[k]? = some row → ∃ b off u, o = some ⟨b, off, none⟩ ∧ us[k]? = some u ∧ w.cell? ⟨b, off + k, none⟩ = some u ∧ RdI w u row)
theorem RdTU.rd {us : List Value} {w : World} {v : Value} {xss : Tb} (h : RdTU us w v xss) : RdT w v xss := by
 obtain ⟨o, c, h1, h2, h3⟩ := h
 exact ⟨o, c, h1, h2, fun k row hx => by obtain ⟨b, off, u, e1, -, e2, e3⟩ := h3 k row hx; exact ⟨b, off, u, e1, e2, e3⟩⟩
theorem RdT.named {w : World} {v : Value} {xss : Tb} (h : RdT w v xss) : ∃ us, RdTU us w v xss := by
 obtain ⟨o, c, rfl, hm, hc⟩ := h
 cases o with
 | none =>
   refine ⟨[], none, c, rfl, hm, fun k row hx => ?_⟩; obtain ⟨b, off, u, e, -⟩ := hc k row hx; cases e
 | some a =>
   refine ⟨(List.range xss.length).map (fun k => (w.cell? ⟨a.block, a.off + k, none⟩).getD default), some a, c, rfl, hm, fun k row hx => ?_⟩; have hk : k < xss.length := (List.getElem?_eq_some_iff.1 hx).1; obtain ⟨b, off, u, e, hcell, hr⟩ := hc k row hx; obtain rfl := Option.some.inj e; exact ⟨b, off, u, rfl, by simp [hk, hcell], hcell, hr⟩
theorem RdI.stay {w u u' : World} {v : Value} {xs : Li} (h : RdI w v xs) (hu : RdI u v xs) (hk : ∀ k, k < w.heap.size → u'.heap[k]? = u.heap[k]?) : RdI u' v xs :=
 (Lives.rdI h).stay u u' (fun k _ hk' => hk k hk') hu
theorem Lives.rdT {w : World} {v : Value} {xss : Tb} (h : RdT w v xss) : ∃ us, Lives 0 w.heap.size w (fun u => RdTU us u v xss) := by
 obtain ⟨us, hu⟩ := h.named
 refine ⟨us, hu, Nat.le_refl _, ?_⟩
 obtain ⟨o, c, rfl, hm, hc⟩ := hu
 rintro u u' hk ⟨o', c', heq, hm', hc'⟩
 obtain ⟨rfl, rfl⟩ : o = o' ∧ c = c' := by simpa using heq
 refine ⟨o, c, rfl, hm', fun k row hx => ?_⟩
 obtain ⟨b, off, z, hb, hus, hcell, hr⟩ := hc' k row hx
 obtain ⟨b1, off1, z1, hb1, hus1, hcell1, hr1⟩ := hc k row hx
 rw [hb] at hb1
 obtain ⟨rfl, rfl⟩ : b = b1 ∧ off = off1 := by simpa using hb1
 rw [hus] at hus1
 obtain rfl := Option.some.inj hus1
 exact ⟨b, off, z, hb, hus, (World.cell?_of_block (w := u) (a := ⟨b, off + k, none⟩) (hk b (Nat.zero_le _) (qBH hcell1))).trans hcell, hr1.stay hr (fun k hk' => hk k (Nat.zero_le _) hk')⟩
end
section

theorem info_s : (Tryz.prog.info? 28).map (fun i => (i.zero, i.size, i.bytes)) = some (some (.slice none 0 0), 1, 24) := by kernel_rfl

section
variable {ops : Array Oper} {rest : List Oper} {o : Oper} {a : Act} {Q : Exit → Act → World → Prop}
end

theorem OwS.putNew' {w w2 : World} {B g n c : Nat} {xss : Tb} (h : OwS w B (.slice (some ⟨g, 0, none⟩) n c) xss) (hg : g < w.heap.size) (hb : Below w.heap.size w w2) (k : Nat) {u : Value} {row : Li} (hu : OwI w2 w.heap.size u row) (hB : B ≤ w.heap.size) :
  OwS (w2.setCell ⟨g, k, none⟩ u) B (.slice (some ⟨g, 0, none⟩) n c) (xss.set k row) := by
 refine (h.below hb).putNew k hu hB hg (fun j u' r hc hx b hbb => ?_)
 obtain ⟨o', c', hcell, how, -⟩ := h.get hx
 have e := (hb.cell (p := ⟨g, j, none⟩) hg).symm.trans hc
 rw [hcell] at e
 obtain rfl := Option.some.inj e
 exact (how.lt b hbb).2

theorem OwSR.at {w : World} {lo hi g n c : Nat} {xss : Tb} (h : OwSR lo hi w (.slice (some ⟨g, 0, none⟩) n c) xss) {k : Nat} {row : Li} (hx : xss[k]? = some row) :
  ∃ o c', w.cell? ⟨g, k, none⟩ = some (.slice o row.length c') ∧ OwI w lo (.slice o row.length c') row ∧ (∀ b : Nat, (Value.slice o row.length c').ownBlock = some b → lo ≤ b ∧ b < hi ∧ b ≠ g) ∧
    (∀ w' row', row'.length = row.length → w.grownBy w' (Value.slice o row.length c').ownBlock → OwI w' lo (.slice o row.length c') row' → OwSR lo hi w' (.slice (some ⟨g, 0, none⟩) n c) (xss.set k row')) := by
 have hn := h.ow.len
 obtain ⟨us, hl, hr, h1, h2, h3, h4, h5⟩ := h
 subst hn
 have hk : k < xss.length := (List.getElem?_eq_some_iff.1 hx).1
 have hu : us[k]? = some us[k] := by simp [hl, hk]
 have how := h1 k _ row hu hx
 obtain ⟨o, c', he⟩ := how.shape
 rw [he] at how hu
 refine ⟨o, c', by rw [World.ownsRow.cellAt hr k Oo]; exact hu, how, fun b hb => ⟨(how.lt b hb).1, h5 k _ b hu hb, fun e => h3 k _ g hu (by rw [hb, e]) rfl⟩, fun w' row' hlen hg how' => ?_⟩
 have hr' := hr.kept hg (.inr fun e => h3 k _ g hu (by rw [← e]; rfl) rfl)
 refine ⟨us, by simp [hl], by rw [List.length_set]; exact hr', fun i u r hi hxi => ?_, h2, h3, h4, h5⟩
 ·rw [List.getElem?_set] at hxi
  by_cases e : k = i
  ·subst e; rw [if_pos rfl, if_pos hk] at hxi; cases hxi
   rw [hu] at hi; cases hi
   exact how'
  ·rw [if_neg e] at hxi; refine (h1 i u r hi hxi).kept hg ?_; cases eo : u.ownBlock with
   | none => exact .inl rfl
   | some b => exact .inr fun e' => e (h2 k i _ u b hu hi (by rw [← e']) eo)

section
variable {ops : Array Oper} {rest : List Oper} {o : Oper} {a : Act} {Q : Exit → Act → World → Prop}
theorem wpApT {K : Act → World → Prop} (W : World) (s x : Operand) (hop : o.op = .call { callee := .builtin .append, args := #[s, x], argTypes := #[24, 24] })
  (B F : Nat) (v : Value) (xss : Tb) (hs : a.eval s = v) (hown : OwSR B F W v xss) (hF : F ≤ W.heap.size) (hBF : B ≤ F) (u : Value) (row : Li) (k : Nat) (hx : a.eval x = .slice (some ⟨k, 0, none⟩) 1 1)
  (hcell : W.cell? ⟨k, 0, none⟩ = some u) (hu : OwI W F u row) (hn : xss.length < 1048576)
  (hK : ∀ g cap w', OwS w' B (.slice (some ⟨g, 0, none⟩) (xss.length + 1) cap) (xss ++ [row]) → W.grownBy w' v.ownBlock → Below B W w' → K (a.put o.dst (.slice (some ⟨g, 0, none⟩) (xss.length + 1) cap)) w') :
  Oper.wp Tryz.prog o a W K Q := by
 obtain ⟨i0, hi, hz0, hz1, hz2⟩ := info_parts info_s
 obtain ⟨us, hl, hr, h1, h2, h3, h4, h5⟩ := hown
 obtain ⟨ou, cu, hush⟩ := hu.shape
 refine wp_append_lies W s x 24 hop B 28 i0 (.slice none 0 0) 1 24 Tryz.underlying24 hi hz0 hz1 hz2 rfl (by decide) v xss.length us hs hr ⟨k, 0, none⟩ 1 1 [u] hx rfl (fun j u' hj => ?_) (fun u' hu' => ?_) (by decide) (by unfold maxLen; omega) Oo Oo W.heap.size rfl ?_
 ·match j with
  | 0 => simp at hj; subst hj; simpa [Addr.add] using hcell
  | j + 1 => simp at hj
 ·simp at hu'; subst hu'; rw [hush]; rfl
 ·intro g cap w' hown' hgrow hlies hglt; have hul := hu.lt; have hgb : Below B W w' := Below.grown (Below.refl B W) hgrow Oo (fun b hb => (hr.lt b hb).1); have hrowlt : ∀ (i : Nat) (u' : Value) (b : Nat), us[i]? = some u' → u'.ownBlock = some b → b < F := h5; refine hK g cap w' ⟨us ++ [u], by simp [hl], by rw [List.length_append]; exact hown', fun i u' r hi' hxi => ?_, fun i j u1 u2 b hi1 hj1 hb1 hb2 => ?_, fun i u' b hi' hb hv => ?_⟩ hgrow hgb
  ·rw [List.getElem?_append] at hi' hxi
   by_cases hil : i < us.length
   ·rw [if_pos hil] at hi'; rw [if_pos Oo] at hxi; refine (h1 i u' r hi' hxi).kept hgrow ?_; cases e : u'.ownBlock with
    | none => exact .inl rfl
    | some b => exact .inr fun e' => h3 i u' b hi' e e'.symm
   ·rw [if_neg hil] at hi'; rw [if_neg Oo] at hxi
    have e1 : i - us.length = 0 := by
     have := (List.getElem?_eq_some_iff.1 hi').1; simp at this; omega
    rw [show i - xss.length = 0 by omega] at hxi; rw [e1] at hi'; simp at hi' hxi; subst hi' hxi; refine (hu.mono hBF).kept hgrow ?_; cases e : u.ownBlock with
    | none => exact .inl rfl
    | some b => exact .inr fun e' => by have := (hul b e).1; have := h4 b e'.symm; omega
  ·rw [List.getElem?_append] at hi1 hj1
   by_cases hil : i < us.length <;> by_cases hjl : j < us.length
   ·rw [if_pos hil] at hi1; rw [if_pos hjl] at hj1; exact h2 i j u1 u2 b hi1 hj1 hb1 hb2
   ·rw [if_pos hil] at hi1; rw [if_neg hjl] at hj1; have : j - us.length = 0 := by have := (List.getElem?_eq_some_iff.1 hj1).1; simp at this; omega
    rw [this] at hj1; simp at hj1; subst hj1; have := h5 i u1 b hi1 hb1; have := (hul b hb2).1; omega
   ·rw [if_neg hil] at hi1; rw [if_pos hjl] at hj1; have : i - us.length = 0 := by have := (List.getElem?_eq_some_iff.1 hi1).1; simp at this; omega
    rw [this] at hi1; simp at hi1; subst hi1; have := h5 j u2 b hj1 hb2; have := (hul b hb1).1; omega
   ·rw [if_neg hil] at hi1; rw [if_neg hjl] at hj1; have := (List.getElem?_eq_some_iff.1 hi1).1; have := (List.getElem?_eq_some_iff.1 hj1).1; simp at *; omega
  ·have hvg : b = g := by simp [Value.ownBlock] at hv; exact hv.symm
   subst hvg; rw [List.getElem?_append] at hi'
   by_cases hil : i < us.length
   ·rw [if_pos hil] at hi'; rcases hlies with hl' | hl'
    ·exact h3 i u' b hi' hb hl'
    ·have := h5 i u' b hi' hb; omega
   ·rw [if_neg hil] at hi'; have : i - us.length = 0 := by have := (List.getElem?_eq_some_iff.1 hi').1; simp at this; omega
    rw [this] at hi'; simp at hi'; subst hi'; rcases hlies with hl' | hl'
    ·have := h4 b hl'; have := (hul b hb).1; omega
    ·have := (hul b hb).2; omega
theorem apT (W : World) (hg : o.guard = none) (s x : Operand) (hop : o.op = .call { callee := .builtin .append, args := #[s, x], argTypes := #[24, 24] })
  (B F : Nat) (v : Value) (xss : Tb) (hs : a.eval s = v) (hown : OwSR B F W v xss) (hF : F ≤ W.heap.size) (hBF : B ≤ F) (u : Value) (row : Li) (k : Nat) (hx : a.eval x = .slice (some ⟨k, 0, none⟩) 1 1)
  (hcell : W.cell? ⟨k, 0, none⟩ = some u) (hu : OwI W F u row) (hn : xss.length < 1048576)
  (hK : ∀ g cap w', OwS w' B (.slice (some ⟨g, 0, none⟩) (xss.length + 1) cap) (xss ++ [row]) → W.grownBy w' v.ownBlock → Below B W w' → wpList Tryz.prog ops Q rest (a.put o.dst (.slice (some ⟨g, 0, none⟩) (xss.length + 1) cap)) w') :
  wpList Tryz.prog ops Q (o :: rest) a W :=
 wpList_plain hg fun _ hK' => wpApT W s x hop B F v xss hs hown hF hBF u row k hx hcell hu hn fun g cap w' h1 h2 h3 => hK' _ _ (hK g cap w' h1 h2 h3)
theorem stT {K : Act → World → Prop} {E : Prop} (W : World) (hg : o.guard = none) (s x : Operand) (hop : o.op = .call { callee := .builtin .append, args := #[s, x], argTypes := #[24, 24] })
  (B F : Nat) (v : Value) (xss : Tb) (hs : a.eval s = v) (hown : OwSR B F W v xss) (hF : F ≤ W.heap.size) (hBF : B ≤ F) (u : Value) (row : Li) (k : Nat) (hx : a.eval x = .slice (some ⟨k, 0, none⟩) 1 1)
  (hcell : W.cell? ⟨k, 0, none⟩ = some u) (hu : OwI W F u row) (hn : xss.length < 1048576)
  (hK : ∀ g cap w', OwS w' B (.slice (some ⟨g, 0, none⟩) (xss.length + 1) cap) (xss ++ [row]) → W.grownBy w' v.ownBlock → Below B W w' → K (a.put o.dst (.slice (some ⟨g, 0, none⟩) (xss.length + 1) cap)) w') :
  if Region.wanted o (yielded ops a.tmps) = true then Oper.wp Tryz.prog o a W K Q else E := by
 have hw : Region.wanted o (yielded ops a.tmps) = true := by simp [Region.wanted, hg]
 rw [if_pos hw]
 exact wpApT W s x hop B F v xss hs hown hF hBF u row k hx hcell hu hn hK
end

section
variable {ops : Array Oper} {rest : List Oper} {o : Oper} {a : Act} {Q : Exit → Act → World → Prop}
theorem stMk {K : Act → World → Prop} {E : Prop} {w : World} (hg : o.guard = none) (l c : Operand) (hop : o.op = Op.makeSlice 28 l c) (kl kc : IntKind) (L : Int) (n : Nat)
  (hl : a.eval l = .int kl L) (hc : a.eval c = .int kc L) (hL : L = (n : Int)) (hn : n ≤ 1099511627776)
  (hK : ∀ w', OwI w' w.heap.size (.slice (some ⟨w.heap.size, 0, none⟩) n n) (List.replicate n 0) → Below w.heap.size w w' → w'.heap.size = w.heap.size + 1 → K (a.put o.dst (.slice (some ⟨w.heap.size, 0, none⟩) n n)) w') :
  if Region.wanted o (yielded ops a.tmps) = true then Oper.wp Tryz.prog o a w K Q else E := by
 have hw : Region.wanted o (yielded ops a.tmps) = true := by simp [Region.wanted, hg]
 rw [if_pos hw]
 obtain ⟨i0, hi, hz0, hz1, hz2⟩ := info_parts qCy
 subst hL
 have hr := run_make (P := Tryz.prog) w 28 2 i0 (.int .i64 0) Tryz.underlying28 hi hz0 kl kc n n Oo (Int.le_refl _) (by rw [hz2]; omega) Oo
 simp only [Int.toNat_natCast, hz1, Nat.mul_one] at hr
 unfold Oper.wp
 have := hK (w.alloc (.cells (madeCells (Value.int IntKind.i64 0).cells n) 2)) (by
  have h := World.ownsRow_lit (base := w.heap.size) (e := 2) (size := 1) w (madeCells (Value.int IntKind.i64 0).cells n) n (Nat.le_refl _) (by unfold maxLen; omega) (by simp [size_madeCells])
  have e : (madeCells (Value.int IntKind.i64 0).cells n).toList = (List.replicate n (0 : Int)).map (Value.int .i64) := by
   rw [show (Value.int IntKind.i64 0).cells = #[Value.int IntKind.i64 0] from rfl, toList_madeCells_one, List.map_replicate]
  rw [e] at h; unfold OwI; rw [List.length_replicate]; exact h) (qLr (World.grownBy_alloc w _ none) (Nat.le_refl _) (fun k h => by cases h)) (by simp)
 simp [execOp, hop, hl, hc, hr, Result.andThen]
 exact this
end

theorem Box2.belowB {B : Nat} {w w' : World} {b : Nat} {x y : Value} (h : Box2 w b x y) (hb : Below B w w') (hB : b < B) : Box2 w' b x y :=
 ⟨(hb.cell (p := ⟨b, 0, none⟩) hB).trans h.1, (hb.cell (p := ⟨b, 1, none⟩) hB).trans h.2⟩
theorem RB2.belowB {B : Nat} {w w' : World} {b : Nat} {x y : Value} (h : RB2 w b x y) (hb : Below B w w') (hB : b < B) : RB2 w' b x y :=
 ⟨h.1.belowB hb hB, fun k => (hb.frozen (p := ⟨b, k, none⟩) hB).trans (h.2 k)⟩
theorem Box2.chg {lo hi : Nat} {w w' : World} {b : Nat} {x y : Value} (h : Box2 w b x y) (hc : Chg lo hi w w') (hb : b < lo ∨ hi ≤ b) : Box2 w' b x y :=
 ⟨(World.cell?_of_block (a := ⟨b, 0, none⟩) (hc.block b h.lt hb)).trans h.1, (World.cell?_of_block (a := ⟨b, 1, none⟩) (hc.block b h.lt hb)).trans h.2⟩
theorem RB2.chg {lo hi : Nat} {w w' : World} {b : Nat} {x y : Value} (h : RB2 w b x y) (hc : Chg lo hi w w') (hb : b < lo ∨ hi ≤ b) : RB2 w' b x y :=
 ⟨h.1.chg hc hb, fun k => (World.frozen?_of_block (a := ⟨b, k, none⟩) (hc.block b h.1.lt hb)).trans (h.2 k)⟩
theorem Chg.drew {lo hi : Nat} {a w : World} (h : Chg lo hi a w) : Chg lo hi a w.drew := ⟨h.os, h.tape, h.output, h.size, h.block⟩
theorem Chg.drewN {lo hi : Nat} {a w : World} (h : Chg lo hi a w) (n : Nat) : Chg lo hi a (w.drewN n) := ⟨h.os, h.tape, h.output, h.size, h.block⟩
theorem Chg.grown {lo hi g : Nat} {a w w' : World} (h : Chg lo hi a w) (hg : w.grownBy w' (some g)) (h1 : lo ≤ g) (h2 : g < hi) : Chg lo hi a w' := h.trans (Chg.of_grown hg (fun k hk => by cases hk; exact ⟨h1, h2⟩))

def OwSU (us : List Value) (lo hi : Nat) (w : World) (v : Value) (xss : Tb) : Prop :=
 us.length = xss.length ∧ w.ownsRow lo 28 1 v xss.length us ∧
  (∀ (k : Nat) (u : Value) (row : Li), us[k]? = some u → xss[k]? = some row → OwI w lo u row) ∧
  (∀ (i j : Nat) (u u' : Value) (b : Nat), us[i]? = some u → us[j]? = some u' → u.ownBlock = some b → u'.ownBlock = some b → i = j) ∧
  (∀ (i : Nat) (u : Value) (b : Nat), us[i]? = some u → u.ownBlock = some b → v.ownBlock = some b → False) ∧
  (∀ b : Nat, v.ownBlock = some b → b < hi) ∧ (∀ (k : Nat) (u : Value) (b : Nat), us[k]? = some u → u.ownBlock = some b → b < hi)
theorem OwSR.named {lo hi : Nat} {w : World} {v : Value} {xss : Tb} (h : OwSR lo hi w v xss) : ∃ us, OwSU us lo hi w v xss := h
theorem OwSU.r {us : List Value} {lo hi : Nat} {w : World} {v : Value} {xss : Tb} (h : OwSU us lo hi w v xss) : OwSR lo hi w v xss := ⟨us, h⟩
theorem OwSU.stay {us : List Value} {lo hi : Nat} {u u' : World} {v : Value} {xss : Tb} (h : OwSU us lo hi u v xss) (hk : ∀ k, lo ≤ k → k < hi → u'.heap[k]? = u.heap[k]?) : OwSU us lo hi u' v xss := by
 obtain ⟨h1, h2, h3, h4, h5, h6, h7⟩ := h
 refine ⟨h1, ⟨h2.1, ?_⟩, fun k w' row hu hx => (h3 k w' row hu hx).stay (h7 k w' · hu) hk, h4, h5, h6, h7⟩
 rcases h2.2 with h2 | ⟨g, cap, cur, hv, hg, hh, r⟩
 ·exact .inl h2
 ·exact .inr ⟨g, cap, cur, hv, hg, by rw [hk g hg (h6 g (by rw [hv]; rfl))]; exact hh, r⟩
theorem OwSU.at {us : List Value} {w : World} {lo hi g n c : Nat} {xss : Tb} (h : OwSU us lo hi w (.slice (some ⟨g, 0, none⟩) n c) xss) {k : Nat} {row : Li} (hx : xss[k]? = some row) :
  ∃ o c', us[k]? = some (.slice o row.length c') ∧ w.cell? ⟨g, k, none⟩ = some (.slice o row.length c') ∧ OwI w lo (.slice o row.length c') row ∧ (∀ b : Nat, (Value.slice o row.length c').ownBlock = some b → lo ≤ b ∧ b < hi ∧ b ≠ g) ∧
    (∀ w' row', row'.length = row.length → w.grownBy w' (Value.slice o row.length c').ownBlock → OwI w' lo (.slice o row.length c') row' → OwSU us lo hi w' (.slice (some ⟨g, 0, none⟩) n c) (xss.set k row')) := by
 have hn := h.r.ow.len
 obtain ⟨hl, hr, h1, h2, h3, h4, h5⟩ := h
 subst hn
 have hk : k < xss.length := (List.getElem?_eq_some_iff.1 hx).1
 have hu : us[k]? = some us[k] := by simp [hl, hk]
 have how := h1 k _ row hu hx
 obtain ⟨o, c', he⟩ := how.shape
 rw [he] at how hu
 refine ⟨o, c', hu, by rw [World.ownsRow.cellAt hr k Oo]; exact hu, how, fun b hb => ⟨(how.lt b hb).1, h5 k _ b hu hb, fun e => h3 k _ g hu (by rw [hb, e]) rfl⟩, fun w' row' hlen hg how' => ?_⟩
 have hr' := hr.kept hg (.inr fun e => h3 k _ g hu (by rw [← e]; rfl) rfl)
 refine ⟨by simp [hl], by rw [List.length_set]; exact hr', fun i u r hi hxi => ?_, h2, h3, h4, h5⟩
 rw [List.getElem?_set] at hxi
 by_cases e : k = i
 ·subst e; rw [if_pos rfl, if_pos hk] at hxi; cases hxi
  rw [hu] at hi; cases hi
  exact how'
 ·rw [if_neg e] at hxi; refine (h1 i u r hi hxi).kept hg ?_; cases eo : u.ownBlock with
  | none => exact .inl rfl
  | some b => exact .inr fun e' => e (h2 k i _ u b hu hi (by rw [← e']) eo)
theorem OwSU.row {us : List Value} {w : World} {lo hi n c : Nat} {o : Option Addr} {xss : Tb} (h : OwSU us lo hi w (.slice o n c) xss) (hn : 1 ≤ n) : ∃ g, o = some ⟨g, 0, none⟩ ∧ lo ≤ g ∧ g < hi := by
 obtain ⟨g, rfl, h1, h2⟩ := h.r.ow.row hn
 exact ⟨g, rfl, h1, h.2.2.2.2.2.1 g rfl⟩
theorem OwS.lit0 (w : World) : OwS (w.alloc (.cells #[] 28)) w.heap.size (.slice (some ⟨w.heap.size, 0, none⟩) 0 0) [] := by
 have := World.ownsRow_lit (base := w.heap.size) (e := 28) (size := 1) w #[] 0 (Nat.le_refl _) (Nat.zero_le _) rfl
 exact ⟨[], rfl, this, by simp, by simp, by simp⟩
end
section

def eqPB (m : Int) (xss : Tb) (n : Int) (yss : Tb) : Bool := (m == n) && qC3 xss yss
end
section

def Rds (lo hi : Nat) (w : World) (R : World → Prop) : Prop := hi ≤ w.heap.size ∧ ∀ u : World, (∀ k, lo ≤ k → k < hi → u.heap[k]? = w.heap[k]?) → R u
theorem Rds.now {lo hi : Nat} {w : World} {R : World → Prop} (h : Rds lo hi w R) : R w := h.2 w (fun _ _ _ => rfl)
theorem Rds.grown {lo hi : Nat} {w w' : World} {R : World → Prop} {r : Option Nat} (h : Rds lo hi w R) (hg : w.grownBy w' r) (hr : ∀ b, r = some b → b < lo ∨ hi ≤ b) : Rds lo hi w' R :=
 ⟨Nat.le_trans h.1 hg.size, fun u hu => h.2 u (fun k h1 h2 => (hu k h1 h2).trans (hg.block k (Nat.lt_of_lt_of_le h2 h.1) (fun e => by have := hr k e.symm; omega)))⟩
theorem Rds.below {lo hi : Nat} {w w' : World} {R : World → Prop} (h : Rds lo hi w R) (hb : Below w.heap.size w w') : Rds lo hi w' R :=
 ⟨Nat.le_trans h.1 hb.size, fun u hu => h.2 u (fun k h1 h2 => (hu k h1 h2).trans (hb.block k (Nat.lt_of_lt_of_le h2 h.1)))⟩
theorem Rds.belowB {lo hi B : Nat} {w w' : World} {R : World → Prop} (h : Rds lo hi w R) (hb : Below B w w') (hB : hi ≤ B) : Rds lo hi w' R :=
 ⟨Nat.le_trans h.1 hb.size, fun u hu => h.2 u (fun k h1 h2 => (hu k h1 h2).trans (hb.block k Oo))⟩
theorem Rds.put {lo hi : Nat} {w : World} {R : World → Prop} (h : Rds lo hi w R) {b : Nat} (hb : b < lo ∨ hi ≤ b) (k : Nat) (u : Value) : Rds lo hi (w.setCell ⟨b, k, none⟩ u) R :=
 h.grown (qBx w b k u) (fun j hj => by cases hj; exact hb)
theorem OwI.rds {w : World} {B : Nat} {v : Value} {xs : Li} (h : OwI w B v xs) (hB : B ≤ w.heap.size) : Rds B w.heap.size w (fun u => RdI u v xs) :=
 ⟨Nat.le_refl _, fun u hu => ((Lives.owI h hB).stay w u hu h).rd⟩
theorem RdI.rds {w : World} {v : Value} {xs : Li} (h : RdI w v xs) : Rds 0 w.heap.size w (fun u => RdI u v xs) :=
 ⟨Nat.le_refl _, fun u hu => (Lives.rdI h).stay w u hu h⟩
end
section

def qDV (m : Int) (us : List Value) : List Value := us.flatMap (fun u => [.int .i64 m, u])
theorem qID (m : Int) (us : List Value) (k : Nat) (h : k < us.length) : (qDV m us)[k * 2]? = some (.int .i64 m) := by
 induction us generalizing k with
 | nil => simp at h
 | cons u us ih =>
   cases k with
   | zero => rfl
   | succ k =>
     rw [show (k + 1) * 2 = k * 2 + 1 + 1 by omega]; exact ih k (by simpa using h)
theorem qHB (m : Int) (us : List Value) (k : Nat) : (qDV m us)[k * 2 + 1]? = us[k]? := by
 induction us generalizing k with
 | nil => rfl
 | cons u us ih =>
   cases k with
   | zero => rfl
   | succ k =>
     rw [show (k + 1) * 2 + 1 = k * 2 + 1 + 1 + 1 by omega]; exact ih k
theorem qL1 (m : Int) (us : List Value) (u : Value) : qDV m (us ++ [u]) = qDV m us ++ [.int .i64 m, u] := by simp [qDV]

theorem Lives.grown {lo hi : Nat} {w w' : World} {F : World → Prop} {r : Option Nat} (h : Lives lo hi w F) (hg : w.grownBy w' r) (hr : ∀ b, r = some b → b < lo ∨ hi ≤ b) : Lives lo hi w' F :=
 ⟨h.stay w w' (fun k h1 h2 => hg.block k (Nat.lt_of_lt_of_le h2 h.le) (fun e => by have := hr k e.symm; omega)) h.now, Nat.le_trans h.le hg.size, h.stay⟩
theorem Lives.weak {lo hi : Nat} {w : World} {F G : World → Prop} (h : Lives lo hi w F) (e : ∀ u, F u ↔ G u) : Lives lo hi w G :=
 ⟨(e w).1 h.now, h.le, fun u u' hk hg => (e u').1 (h.stay u u' hk ((e u).2 hg))⟩
theorem OwS.rds {w : World} {B : Nat} {v : Value} {xs : Tb} (h : OwS w B v xs) : Rds B w.heap.size w (fun u => RdT u v xs) :=
 ⟨Nat.le_refl _, fun u hu => (h.toR.stay hu).rd⟩

def RdLS (w : World) (v : Value) (m : Int) (xss : Tb) : Prop :=
 ∃ o c, v = .slice o xss.length c ∧ (xss.length ≤ maxLen ∧ xss.length ≤ c ∧ (o = none → c = 0)) ∧
   (∀ (k : Nat) (row : Li), xss[k]? = some row → ∃ b off u, o = some ⟨b, off, none⟩ ∧ w.cell? ⟨b, off + k * 2, none⟩ = some (.int .i64 m) ∧ w.cell? ⟨b, off + k * 2 + 1, none⟩ = some u ∧ RdI w u row)
theorem RdLS.below {B : Nat} {w w' : World} {v : Value} {m : Int} {xss : Tb} (h : RdLS w v m xss) (hb : Below B w w') (hB : w.heap.size ≤ B := by exact Nat.le_refl _) : RdLS w' v m xss := by
 obtain ⟨o, c, rfl, hm, hc⟩ := h
 refine ⟨o, c, rfl, hm, fun k row hx => ?_⟩
 obtain ⟨b, off, u, ho, h0, h1, hr⟩ := hc k row hx
 exact ⟨b, off, u, ho, qA0 hb hB h0, qA0 hb hB h1, hr.below hb hB⟩
theorem RdLS.len {w : World} {o : Option Addr} {n c : Nat} {m : Int} {xss : Tb} (h : RdLS w (.slice o n c) m xss) : n = xss.length ∧ xss.length ≤ maxLen ∧ xss.length ≤ c := by
 obtain ⟨o', c', heq, hm, hc⟩ := h
 obtain ⟨rfl, rfl, rfl⟩ : o = o' ∧ n = xss.length ∧ c = c' := by simpa using heq
 exact ⟨rfl, hm.1, hm.2.1⟩
theorem RdLS.base {w : World} {o : Option Addr} {n c : Nat} {m : Int} {xss : Tb} (h : RdLS w (.slice o n c) m xss) (hx : 1 ≤ xss.length) : ∃ b off, o = some ⟨b, off, none⟩ := by
 obtain ⟨o', c', heq, hm, hc⟩ := h
 obtain ⟨rfl, rfl, rfl⟩ : o = o' ∧ n = xss.length ∧ c = c' := by simpa using heq
 obtain ⟨b, off, u, ho, -⟩ := hc 0 xss[0] (by simp)
 exact ⟨b, off, ho⟩
theorem RdLS.at {w : World} {b off n c : Nat} {m : Int} {xss : Tb} (h : RdLS w (.slice (some ⟨b, off, none⟩) n c) m xss) {k : Nat} {row : Li} (hx : xss[k]? = some row) :
  ∃ o c, w.cell? ⟨b, off + k * 2, none⟩ = some (.int .i64 m) ∧ w.cell? ⟨b, off + k * 2 + 1, none⟩ = some (.slice o row.length c) ∧ RdI w (.slice o row.length c) row := by
 obtain ⟨o', c', heq, hm, hc⟩ := h
 obtain ⟨rfl, -, -⟩ : some ⟨b, off, none⟩ = o' ∧ n = xss.length ∧ c = c' := by simpa using heq
 obtain ⟨b', off', u, ho, h0, h1, h2⟩ := hc k row hx
 obtain ⟨rfl, rfl⟩ : b = b' ∧ off = off' := by simpa using ho
 obtain ⟨o, c, rfl, -, -⟩ := id h2
 exact ⟨o, c, h0, h1, h2⟩

def OwLS (w : World) (B : Nat) (v : Value) (m : Int) (xss : Tb) : Prop :=
 ∃ us : List Value, us.length = xss.length ∧ w.ownsRow B 34 2 v xss.length (qDV m us) ∧
   (∀ (k : Nat) (u : Value) (row : Li), us[k]? = some u → xss[k]? = some row → ∃ lo hi, B ≤ lo ∧ Rds lo hi w (fun x => RdI x u row) ∧ ∀ b : Nat, v.ownBlock = some b → b < lo ∨ hi ≤ b)
theorem OwLS.shape {w : World} {B : Nat} {v : Value} {m : Int} {xss : Tb} (h : OwLS w B v m xss) : ∃ o c, v = .slice o xss.length c := by
 obtain ⟨us, hl, ⟨_, hr⟩, -⟩ := h
 rcases hr with ⟨rfl, h0⟩ | ⟨g, cap, cur, rfl, -⟩
 ·exact ⟨none, 0, by rw [h0]⟩
 ·exact ⟨_, _, rfl⟩
theorem OwLS.shapeN {w : World} {B n : Nat} {v : Value} {m : Int} {xss : Tb} (h : OwLS w B v m xss) (hl : xss.length = n) : ∃ o c, v = .slice o n c := by
 obtain ⟨o, c, rfl⟩ := h.shape; exact ⟨o, c, by rw [hl]⟩
theorem OwLS.mono {w : World} {B B' : Nat} {v : Value} {m : Int} {xss : Tb} (h : OwLS w B v m xss) (hB : B' ≤ B) : OwLS w B' v m xss := by
 obtain ⟨us, hl, hr, h1⟩ := h
 refine ⟨us, hl, ⟨hr.1, ?_⟩, fun k u row hu hx => ?_⟩
 rcases hr.2 with h | ⟨g, cap, cur, hv, hg, r⟩
 ·exact .inl h
 ·exact .inr ⟨g, cap, cur, hv, Oo, r⟩
 obtain ⟨lo, hi, h0, h2, h3⟩ := h1 k u row hu hx
 exact ⟨lo, hi, Oo, h2, h3⟩
theorem OwLS.lt {w : World} {B : Nat} {v : Value} {m : Int} {xss : Tb} (h : OwLS w B v m xss) : ∀ k, v.ownBlock = some k → B ≤ k ∧ k < w.heap.size := by
 obtain ⟨us, hl, hr, -⟩ := h; exact hr.lt
theorem OwLS.below {w w' : World} {B : Nat} {v : Value} {m : Int} {xss : Tb} (h : OwLS w B v m xss) (hb : Below w.heap.size w w') : OwLS w' B v m xss := by
 obtain ⟨us, hl, hr, h1⟩ := h
 refine ⟨us, hl, hr.kept (row := none) ⟨hb.os, hb.tape, hb.output, hb.size, fun k hk _ => hb.block k hk⟩ (by cases e : v.ownBlock <;> simp), fun k u row hu hx => ?_⟩
 obtain ⟨lo, hi, h0, h2, h3⟩ := h1 k u row hu hx
 exact ⟨lo, hi, h0, h2.below hb, h3⟩
theorem OwLS.rd {w : World} {B : Nat} {v : Value} {m : Int} {xss : Tb} (h : OwLS w B v m xss) : RdLS w v m xss := by
 obtain ⟨us, hl, hr, h1⟩ := h
 rcases id hr.2 with ⟨rfl, h0⟩ | ⟨g, cap, cur, rfl, hg, hh, hn, hcm, hcs, ht⟩
 ·have : xss = [] := List.eq_nil_of_length_eq_zero h0; subst this; exact ⟨none, 0, rfl, ⟨Nat.zero_le _, Nat.zero_le _, fun _ => rfl⟩, fun k row hx => by simp at hx⟩
 ·refine ⟨_, _, rfl, ⟨Oo, hn, fun h => by cases h⟩, fun k row hx => ?_⟩; have hk : k < xss.length := (List.getElem?_eq_some_iff.1 hx).1; have hu : us[k]? = some us[k] := by simp [hl, hk]
  obtain ⟨lo, hi, -, h2, -⟩ := h1 k _ row hu hx; refine ⟨g, 0, us[k], rfl, ?_, ?_, h2.now⟩
  ·rw [Nat.zero_add, World.ownsRow.cellAt hr (k * 2) Oo]; exact qID m us k Oo
  ·rw [Nat.zero_add, World.ownsRow.cellAt hr (k * 2 + 1) Oo, qHB]; exact hu
theorem OwLS.rds {w : World} {B : Nat} {v : Value} {m : Int} {xss : Tb} (h : OwLS w B v m xss) : Rds B w.heap.size w (fun x => RdLS x v m xss) := by
 refine ⟨Nat.le_refl _, fun u hk => ?_⟩
 obtain ⟨us, hl, hr, h1⟩ := h
 refine OwLS.rd (B := B) ⟨us, hl, ⟨hr.1, ?_⟩, fun k z row hu hx => ?_⟩
 ·rcases hr.2 with h | ⟨g, cap, cur, hv, hg, hh, r⟩
  ·exact .inl h
  ·have hlt : g < w.heap.size := (Array.getElem?_eq_some_iff.1 hh).1; exact .inr ⟨g, cap, cur, hv, hg, by rw [hk g hg hlt]; exact hh, r⟩
 ·obtain ⟨lo, hi, h0, h2, h3⟩ := h1 k z row hu hx
  have hsz : hi ≤ u.heap.size ∨ hi ≤ lo := by
   by_cases e : lo < hi
   ·left
    have h4 := h2.1; have h5 := hk (hi - 1) Oo Oo; have h6 : hi - 1 < w.heap.size := Oo; rw [Array.getElem?_eq_getElem h6] at h5; have := (Array.getElem?_eq_some_iff.1 h5).1; omega
   ·right; omega
  rcases hsz with hsz | hsz
  ·exact ⟨lo, hi, h0, ⟨hsz, fun x hx' => h2.2 x (fun k' a b => (hx' k' a b).trans (hk k' Oo (by have := h2.1; omega)))⟩, h3⟩
  ·exact ⟨B, B, Nat.le_refl _, ⟨by
    rcases hr.2 with ⟨hv, h0⟩ | ⟨g, cap, cur, hv, hg, hh, r⟩
    ·have : k < xss.length := (List.getElem?_eq_some_iff.1 hx).1; omega
    ·have hlt : g < w.heap.size := (Array.getElem?_eq_some_iff.1 hh).1; have h5 := hk g hg hlt; rw [hh] at h5; have := (Array.getElem?_eq_some_iff.1 h5).1; omega, fun x _ => h2.2 x (fun k' a b => Oo)⟩, fun b _ => Oo⟩
theorem info_S : (Tryz.prog.info? 34).map (fun i => (i.zero, i.size, i.bytes)) = some (some (.agg #[.int .i64 0, .slice none 0 0]), 2, 32) := by kernel_rfl

section
variable {ops : Array Oper} {rest : List Oper} {o : Oper} {a : Act} {Q : Exit → Act → World → Prop}
theorem wpApLS {K : Act → World → Prop} (W : World) (s x : Operand) (hop : o.op = .call { callee := .builtin .append, args := #[s, x], argTypes := #[61, 61] })
  (B : Nat) (v : Value) (m : Int) (xss : Tb) (hs : a.eval s = v) (hown : OwLS W B v m xss) (hB : B ≤ W.heap.size) (u : Value) (row : Li) (k : Nat) (hx : a.eval x = .slice (some ⟨k, 0, none⟩) 1 1)
  (hc0 : W.cell? ⟨k, 0, none⟩ = some (.int .i64 m)) (hc1 : W.cell? ⟨k, 1, none⟩ = some u) (hone : u.oneCell' = true) (hu : ∃ lo hi, B ≤ lo ∧ Rds lo hi W (fun x => RdI x u row) ∧ ∀ b : Nat, v.ownBlock = some b → b < lo ∨ hi ≤ b) (hn : xss.length < 1048576)
  (hK : ∀ g cap w', OwLS w' B (.slice (some ⟨g, 0, none⟩) (xss.length + 1) cap) m (xss ++ [row]) → W.grownBy w' v.ownBlock → Below B W w' → K (a.put o.dst (.slice (some ⟨g, 0, none⟩) (xss.length + 1) cap)) w') :
  Oper.wp Tryz.prog o a W K Q := by
 obtain ⟨i0, hi, hz0, hz1, hz2⟩ := info_parts info_S
 obtain ⟨us, hl, hr, h1⟩ := hown
 refine wp_append_lies W s x 61 hop B 34 i0 (.agg #[.int .i64 0, .slice none 0 0]) 2 32 Tryz.underlying61 hi hz0 hz1 hz2 rfl (by decide) v xss.length (qDV m us) hs hr ⟨k, 0, none⟩ 1 1 [.int .i64 m, u] hx rfl (fun j u' hj => ?_) (fun u' hu' => ?_) (by decide) (by unfold maxLen; omega) Oo hB W.heap.size rfl ?_
 ·match j with
  | 0 => simp at hj; subst hj; simpa [Addr.add] using hc0
  | 1 => simp at hj; subst hj; simpa [Addr.add] using hc1
  | j + 2 => simp at hj
 ·simp at hu'; rcases hu' with rfl | rfl
  ·rfl
  ·exact hone
 ·intro g cap w' hown' hgrow hlies hglt; have hgb : Below B W w' := Below.grown (Below.refl B W) hgrow hB (fun b hb => (hr.lt b hb).1)
  have hg2 : ∀ lo hi, hi ≤ W.heap.size → (∀ b : Nat, v.ownBlock = some b → b < lo ∨ hi ≤ b) → ∀ b : Nat, (Value.slice (some ⟨g, 0, none⟩) (xss.length + 1) cap).ownBlock = some b → b < lo ∨ hi ≤ b := by
   intro lo hi hh hv b hb; simp only [Value.ownBlock, Option.some.injEq] at hb; subst hb; rcases hlies with h | rfl
   ·exact hv _ h
   ·exact .inr hh
  refine hK g cap w' ⟨us ++ [u], by simp [hl], by rw [List.length_append, qL1]; exact hown', fun i u' r hi' hxi => ?_⟩ hgrow hgb; rw [List.getElem?_append] at hi' hxi
  by_cases hil : i < us.length
  ·rw [if_pos hil] at hi'; rw [if_pos Oo] at hxi; obtain ⟨lo, hi, h0, h2, h3⟩ := h1 i u' r hi' hxi; exact ⟨lo, hi, h0, h2.grown hgrow h3, hg2 lo hi h2.1 h3⟩
  ·rw [if_neg hil] at hi'; rw [if_neg Oo] at hxi
   have e1 : i - us.length = 0 := by
    have := (List.getElem?_eq_some_iff.1 hi').1; simp at this; omega
   rw [show i - xss.length = 0 by omega] at hxi; rw [e1] at hi'; simp at hi' hxi; subst hi' hxi; obtain ⟨lo, hi, h0, h2, h3⟩ := hu; exact ⟨lo, hi, h0, h2.grown hgrow h3, hg2 lo hi h2.1 h3⟩
theorem stLS {K : Act → World → Prop} {E : Prop} (W : World) (hg : o.guard = none) (s x : Operand) (hop : o.op = .call { callee := .builtin .append, args := #[s, x], argTypes := #[61, 61] })
  (B : Nat) (v : Value) (m : Int) (xss : Tb) (hs : a.eval s = v) (hown : OwLS W B v m xss) (hB : B ≤ W.heap.size) (u : Value) (row : Li) (k : Nat) (hx : a.eval x = .slice (some ⟨k, 0, none⟩) 1 1)
  (hc0 : W.cell? ⟨k, 0, none⟩ = some (.int .i64 m)) (hc1 : W.cell? ⟨k, 1, none⟩ = some u) (hone : u.oneCell' = true) (hu : ∃ lo hi, B ≤ lo ∧ Rds lo hi W (fun x => RdI x u row) ∧ ∀ b : Nat, v.ownBlock = some b → b < lo ∨ hi ≤ b) (hn : xss.length < 1048576)
  (hK : ∀ g cap w', OwLS w' B (.slice (some ⟨g, 0, none⟩) (xss.length + 1) cap) m (xss ++ [row]) → W.grownBy w' v.ownBlock → Below B W w' → K (a.put o.dst (.slice (some ⟨g, 0, none⟩) (xss.length + 1) cap)) w') :
  if Region.wanted o (yielded ops a.tmps) = true then Oper.wp Tryz.prog o a W K Q else E := by
 have hw : Region.wanted o (yielded ops a.tmps) = true := by simp [Region.wanted, hg]
 rw [if_pos hw]
 exact wpApLS W s x hop B v m xss hs hown hB u row k hx hc0 hc1 hone hu hn hK
end
theorem OwLS.lit1 (w : World) (m : Int) (u : Value) (row : Li) {lo hi : Nat} (hu : Rds lo hi w (fun x => RdI x u row)) (hB : lo ≤ w.heap.size) : OwLS (w.alloc (.cells #[.int .i64 m, u] 34)) lo (.slice (some ⟨w.heap.size, 0, none⟩) 1 1) m [row] := by
 have hr := World.ownsRow_lit (base := lo) (e := 34) (size := 2) w #[.int .i64 m, u] 1 hB (by unfold maxLen; omega) rfl
 refine ⟨[u], rfl, hr, fun k u' r hk hx => ?_⟩
 have : k = 0 := by have := (List.getElem?_eq_some_iff.1 hk).1; simp at this; omega
 subst this
 simp at hk hx
 subst hk hx
 refine ⟨lo, hi, Nat.le_refl _, hu.grown (World.grownBy_alloc w _ none) (fun b hb => by cases hb), fun b hb => ?_⟩
 simp only [Value.ownBlock, Option.some.injEq] at hb
 subst hb
 exact .inr hu.1
def RdLP (w : World) (v : Value) (m : Int) (xss : List Tb) : Prop :=
 ∃ o c, v = .slice o xss.length c ∧ (xss.length ≤ maxLen ∧ xss.length ≤ c ∧ (o = none → c = 0)) ∧
   (∀ (k : Nat) (row : Tb), xss[k]? = some row → ∃ b off u, o = some ⟨b, off, none⟩ ∧ w.cell? ⟨b, off + k * 2, none⟩ = some (.int .i64 m) ∧ w.cell? ⟨b, off + k * 2 + 1, none⟩ = some u ∧ RdT w u row)
theorem RdLP.below {B : Nat} {w w' : World} {v : Value} {m : Int} {xss : List Tb} (h : RdLP w v m xss) (hb : Below B w w') (hB : w.heap.size ≤ B := by exact Nat.le_refl _) : RdLP w' v m xss := by
 obtain ⟨o, c, rfl, hm, hc⟩ := h
 refine ⟨o, c, rfl, hm, fun k row hx => ?_⟩
 obtain ⟨b, off, u, ho, h0, h1, hr⟩ := hc k row hx
 exact ⟨b, off, u, ho, qA0 hb hB h0, qA0 hb hB h1, hr.below hb hB⟩
theorem RdLP.len {w : World} {o : Option Addr} {n c : Nat} {m : Int} {xss : List Tb} (h : RdLP w (.slice o n c) m xss) : n = xss.length ∧ xss.length ≤ maxLen ∧ xss.length ≤ c := by
 obtain ⟨o', c', heq, hm, hc⟩ := h
 obtain ⟨rfl, rfl, rfl⟩ : o = o' ∧ n = xss.length ∧ c = c' := by simpa using heq
 exact ⟨rfl, hm.1, hm.2.1⟩
theorem RdLP.base {w : World} {o : Option Addr} {n c : Nat} {m : Int} {xss : List Tb} (h : RdLP w (.slice o n c) m xss) (hx : 1 ≤ xss.length) : ∃ b off, o = some ⟨b, off, none⟩ := by
 obtain ⟨o', c', heq, hm, hc⟩ := h
 obtain ⟨rfl, rfl, rfl⟩ : o = o' ∧ n = xss.length ∧ c = c' := by simpa using heq
 obtain ⟨b, off, u, ho, -⟩ := hc 0 xss[0] (by simp)
 exact ⟨b, off, ho⟩
theorem RdLP.at {w : World} {b off n c : Nat} {m : Int} {xss : List Tb} (h : RdLP w (.slice (some ⟨b, off, none⟩) n c) m xss) {k : Nat} {row : Tb} (hx : xss[k]? = some row) :
  ∃ o c, w.cell? ⟨b, off + k * 2, none⟩ = some (.int .i64 m) ∧ w.cell? ⟨b, off + k * 2 + 1, none⟩ = some (.slice o row.length c) ∧ RdT w (.slice o row.length c) row := by
 obtain ⟨o', c', heq, hm, hc⟩ := h
 obtain ⟨rfl, -, -⟩ : some ⟨b, off, none⟩ = o' ∧ n = xss.length ∧ c = c' := by simpa using heq
 obtain ⟨b', off', u, ho, h0, h1, h2⟩ := hc k row hx
 obtain ⟨rfl, rfl⟩ : b = b' ∧ off = off' := by simpa using ho
 obtain ⟨o, c, rfl, -, -⟩ := id h2
 exact ⟨o, c, h0, h1, h2⟩

def OwLP (w : World) (B : Nat) (v : Value) (m : Int) (xss : List Tb) : Prop :=
 ∃ us : List Value, us.length = xss.length ∧ w.ownsRow B 26 2 v xss.length (qDV m us) ∧
   (∀ (k : Nat) (u : Value) (row : Tb), us[k]? = some u → xss[k]? = some row → ∃ lo hi, B ≤ lo ∧ Rds lo hi w (fun x => RdT x u row) ∧ ∀ b : Nat, v.ownBlock = some b → b < lo ∨ hi ≤ b)
theorem OwLP.shape {w : World} {B : Nat} {v : Value} {m : Int} {xss : List Tb} (h : OwLP w B v m xss) : ∃ o c, v = .slice o xss.length c := by
 obtain ⟨us, hl, ⟨_, hr⟩, -⟩ := h
 rcases hr with ⟨rfl, h0⟩ | ⟨g, cap, cur, rfl, -⟩
 ·exact ⟨none, 0, by rw [h0]⟩
 ·exact ⟨_, _, rfl⟩
theorem OwLP.shapeN {w : World} {B n : Nat} {v : Value} {m : Int} {xss : List Tb} (h : OwLP w B v m xss) (hl : xss.length = n) : ∃ o c, v = .slice o n c := by
 obtain ⟨o, c, rfl⟩ := h.shape; exact ⟨o, c, by rw [hl]⟩
theorem OwLP.mono {w : World} {B B' : Nat} {v : Value} {m : Int} {xss : List Tb} (h : OwLP w B v m xss) (hB : B' ≤ B) : OwLP w B' v m xss := by
 obtain ⟨us, hl, hr, h1⟩ := h
 refine ⟨us, hl, ⟨hr.1, ?_⟩, fun k u row hu hx => ?_⟩
 rcases hr.2 with h | ⟨g, cap, cur, hv, hg, r⟩
 ·exact .inl h
 ·exact .inr ⟨g, cap, cur, hv, Oo, r⟩
 obtain ⟨lo, hi, h0, h2, h3⟩ := h1 k u row hu hx
 exact ⟨lo, hi, Oo, h2, h3⟩
theorem OwLP.lt {w : World} {B : Nat} {v : Value} {m : Int} {xss : List Tb} (h : OwLP w B v m xss) : ∀ k, v.ownBlock = some k → B ≤ k ∧ k < w.heap.size := by
 obtain ⟨us, hl, hr, -⟩ := h; exact hr.lt
theorem OwLP.below {w w' : World} {B : Nat} {v : Value} {m : Int} {xss : List Tb} (h : OwLP w B v m xss) (hb : Below w.heap.size w w') : OwLP w' B v m xss := by
 obtain ⟨us, hl, hr, h1⟩ := h
 refine ⟨us, hl, hr.kept (row := none) ⟨hb.os, hb.tape, hb.output, hb.size, fun k hk _ => hb.block k hk⟩ (by cases e : v.ownBlock <;> simp), fun k u row hu hx => ?_⟩
 obtain ⟨lo, hi, h0, h2, h3⟩ := h1 k u row hu hx
 exact ⟨lo, hi, h0, h2.below hb, h3⟩
theorem OwLP.rd {w : World} {B : Nat} {v : Value} {m : Int} {xss : List Tb} (h : OwLP w B v m xss) : RdLP w v m xss := by
 obtain ⟨us, hl, hr, h1⟩ := h
 rcases id hr.2 with ⟨rfl, h0⟩ | ⟨g, cap, cur, rfl, hg, hh, hn, hcm, hcs, ht⟩
 ·have : xss = [] := List.eq_nil_of_length_eq_zero h0; subst this; exact ⟨none, 0, rfl, ⟨Nat.zero_le _, Nat.zero_le _, fun _ => rfl⟩, fun k row hx => by simp at hx⟩
 ·refine ⟨_, _, rfl, ⟨Oo, hn, fun h => by cases h⟩, fun k row hx => ?_⟩; have hk : k < xss.length := (List.getElem?_eq_some_iff.1 hx).1; have hu : us[k]? = some us[k] := by simp [hl, hk]
  obtain ⟨lo, hi, -, h2, -⟩ := h1 k _ row hu hx; refine ⟨g, 0, us[k], rfl, ?_, ?_, h2.now⟩
  ·rw [Nat.zero_add, World.ownsRow.cellAt hr (k * 2) Oo]; exact qID m us k Oo
  ·rw [Nat.zero_add, World.ownsRow.cellAt hr (k * 2 + 1) Oo, qHB]; exact hu
theorem OwLP.rds {w : World} {B : Nat} {v : Value} {m : Int} {xss : List Tb} (h : OwLP w B v m xss) : Rds B w.heap.size w (fun x => RdLP x v m xss) := by
 refine ⟨Nat.le_refl _, fun u hk => ?_⟩
 obtain ⟨us, hl, hr, h1⟩ := h
 refine OwLP.rd (B := B) ⟨us, hl, ⟨hr.1, ?_⟩, fun k z row hu hx => ?_⟩
 ·rcases hr.2 with h | ⟨g, cap, cur, hv, hg, hh, r⟩
  ·exact .inl h
  ·have hlt : g < w.heap.size := (Array.getElem?_eq_some_iff.1 hh).1; exact .inr ⟨g, cap, cur, hv, hg, by rw [hk g hg hlt]; exact hh, r⟩
 ·obtain ⟨lo, hi, h0, h2, h3⟩ := h1 k z row hu hx
  have hsz : hi ≤ u.heap.size ∨ hi ≤ lo := by
   by_cases e : lo < hi
   ·left
    have h4 := h2.1; have h5 := hk (hi - 1) Oo Oo; have h6 : hi - 1 < w.heap.size := Oo; rw [Array.getElem?_eq_getElem h6] at h5; have := (Array.getElem?_eq_some_iff.1 h5).1; omega
   ·right; omega
  rcases hsz with hsz | hsz
  ·exact ⟨lo, hi, h0, ⟨hsz, fun x hx' => h2.2 x (fun k' a b => (hx' k' a b).trans (hk k' Oo (by have := h2.1; omega)))⟩, h3⟩
  ·exact ⟨B, B, Nat.le_refl _, ⟨by
    rcases hr.2 with ⟨hv, h0⟩ | ⟨g, cap, cur, hv, hg, hh, r⟩
    ·have : k < xss.length := (List.getElem?_eq_some_iff.1 hx).1; omega
    ·have hlt : g < w.heap.size := (Array.getElem?_eq_some_iff.1 hh).1; have h5 := hk g hg hlt; rw [hh] at h5; have := (Array.getElem?_eq_some_iff.1 h5).1; omega, fun x _ => h2.2 x (fun k' a b => Oo)⟩, fun b _ => Oo⟩
theorem info_P : (Tryz.prog.info? 26).map (fun i => (i.zero, i.size, i.bytes)) = some (some (.agg #[.int .i64 0, .slice none 0 0]), 2, 32) := by kernel_rfl

section
variable {ops : Array Oper} {rest : List Oper} {o : Oper} {a : Act} {Q : Exit → Act → World → Prop}
theorem wpApLP {K : Act → World → Prop} (W : World) (s x : Operand) (hop : o.op = .call { callee := .builtin .append, args := #[s, x], argTypes := #[141, 141] })
  (B : Nat) (v : Value) (m : Int) (xss : List Tb) (hs : a.eval s = v) (hown : OwLP W B v m xss) (hB : B ≤ W.heap.size) (u : Value) (row : Tb) (k : Nat) (hx : a.eval x = .slice (some ⟨k, 0, none⟩) 1 1)
  (hc0 : W.cell? ⟨k, 0, none⟩ = some (.int .i64 m)) (hc1 : W.cell? ⟨k, 1, none⟩ = some u) (hone : u.oneCell' = true) (hu : ∃ lo hi, B ≤ lo ∧ Rds lo hi W (fun x => RdT x u row) ∧ ∀ b : Nat, v.ownBlock = some b → b < lo ∨ hi ≤ b) (hn : xss.length < 1048576)
  (hK : ∀ g cap w', OwLP w' B (.slice (some ⟨g, 0, none⟩) (xss.length + 1) cap) m (xss ++ [row]) → W.grownBy w' v.ownBlock → Below B W w' → K (a.put o.dst (.slice (some ⟨g, 0, none⟩) (xss.length + 1) cap)) w') :
  Oper.wp Tryz.prog o a W K Q := by
 obtain ⟨i0, hi, hz0, hz1, hz2⟩ := info_parts info_P
 obtain ⟨us, hl, hr, h1⟩ := hown
 refine wp_append_lies W s x 141 hop B 26 i0 (.agg #[.int .i64 0, .slice none 0 0]) 2 32 Tryz.underlying141 hi hz0 hz1 hz2 rfl (by decide) v xss.length (qDV m us) hs hr ⟨k, 0, none⟩ 1 1 [.int .i64 m, u] hx rfl (fun j u' hj => ?_) (fun u' hu' => ?_) (by decide) (by unfold maxLen; omega) Oo hB W.heap.size rfl ?_
 ·match j with
  | 0 => simp at hj; subst hj; simpa [Addr.add] using hc0
  | 1 => simp at hj; subst hj; simpa [Addr.add] using hc1
  | j + 2 => simp at hj
 ·simp at hu'; rcases hu' with rfl | rfl
  ·rfl
  ·exact hone
 ·intro g cap w' hown' hgrow hlies hglt; have hgb : Below B W w' := Below.grown (Below.refl B W) hgrow hB (fun b hb => (hr.lt b hb).1)
  have hg2 : ∀ lo hi, hi ≤ W.heap.size → (∀ b : Nat, v.ownBlock = some b → b < lo ∨ hi ≤ b) → ∀ b : Nat, (Value.slice (some ⟨g, 0, none⟩) (xss.length + 1) cap).ownBlock = some b → b < lo ∨ hi ≤ b := by
   intro lo hi hh hv b hb; simp only [Value.ownBlock, Option.some.injEq] at hb; subst hb; rcases hlies with h | rfl
   ·exact hv _ h
   ·exact .inr hh
  refine hK g cap w' ⟨us ++ [u], by simp [hl], by rw [List.length_append, qL1]; exact hown', fun i u' r hi' hxi => ?_⟩ hgrow hgb; rw [List.getElem?_append] at hi' hxi
  by_cases hil : i < us.length
  ·rw [if_pos hil] at hi'; rw [if_pos Oo] at hxi; obtain ⟨lo, hi, h0, h2, h3⟩ := h1 i u' r hi' hxi; exact ⟨lo, hi, h0, h2.grown hgrow h3, hg2 lo hi h2.1 h3⟩
  ·rw [if_neg hil] at hi'; rw [if_neg Oo] at hxi
   have e1 : i - us.length = 0 := by
    have := (List.getElem?_eq_some_iff.1 hi').1; simp at this; omega
   rw [show i - xss.length = 0 by omega] at hxi; rw [e1] at hi'; simp at hi' hxi; subst hi' hxi; obtain ⟨lo, hi, h0, h2, h3⟩ := hu; exact ⟨lo, hi, h0, h2.grown hgrow h3, hg2 lo hi h2.1 h3⟩
theorem stLP {K : Act → World → Prop} {E : Prop} (W : World) (hg : o.guard = none) (s x : Operand) (hop : o.op = .call { callee := .builtin .append, args := #[s, x], argTypes := #[141, 141] })
  (B : Nat) (v : Value) (m : Int) (xss : List Tb) (hs : a.eval s = v) (hown : OwLP W B v m xss) (hB : B ≤ W.heap.size) (u : Value) (row : Tb) (k : Nat) (hx : a.eval x = .slice (some ⟨k, 0, none⟩) 1 1)
  (hc0 : W.cell? ⟨k, 0, none⟩ = some (.int .i64 m)) (hc1 : W.cell? ⟨k, 1, none⟩ = some u) (hone : u.oneCell' = true) (hu : ∃ lo hi, B ≤ lo ∧ Rds lo hi W (fun x => RdT x u row) ∧ ∀ b : Nat, v.ownBlock = some b → b < lo ∨ hi ≤ b) (hn : xss.length < 1048576)
  (hK : ∀ g cap w', OwLP w' B (.slice (some ⟨g, 0, none⟩) (xss.length + 1) cap) m (xss ++ [row]) → W.grownBy w' v.ownBlock → Below B W w' → K (a.put o.dst (.slice (some ⟨g, 0, none⟩) (xss.length + 1) cap)) w') :
  if Region.wanted o (yielded ops a.tmps) = true then Oper.wp Tryz.prog o a W K Q else E := by
 have hw : Region.wanted o (yielded ops a.tmps) = true := by simp [Region.wanted, hg]
 rw [if_pos hw]
 exact wpApLP W s x hop B v m xss hs hown hB u row k hx hc0 hc1 hone hu hn hK
end
theorem OwLP.lit1 (w : World) (m : Int) (u : Value) (row : Tb) {lo hi : Nat} (hu : Rds lo hi w (fun x => RdT x u row)) (hB : lo ≤ w.heap.size) : OwLP (w.alloc (.cells #[.int .i64 m, u] 26)) lo (.slice (some ⟨w.heap.size, 0, none⟩) 1 1) m [row] := by
 have hr := World.ownsRow_lit (base := lo) (e := 26) (size := 2) w #[.int .i64 m, u] 1 hB (by unfold maxLen; omega) rfl
 refine ⟨[u], rfl, hr, fun k u' r hk hx => ?_⟩
 have : k = 0 := by have := (List.getElem?_eq_some_iff.1 hk).1; simp at this; omega
 subst this
 simp at hk hx
 subst hk hx
 refine ⟨lo, hi, Nat.le_refl _, hu.grown (World.grownBy_alloc w _ none) (fun b hb => by cases hb), fun b hb => ?_⟩
 simp only [Value.ownBlock, Option.some.injEq] at hb
 subst hb
 exact .inr hu.1

end
section

def RdLT (w : World) (v : Value) (xss : List Tb) : Prop :=
 ∃ o c, v = .slice o xss.length c ∧ (xss.length ≤ maxLen ∧ xss.length ≤ c ∧ (o = none → c = 0)) ∧
   (∀ (k : Nat) (row : Tb), xss[k]? = some row → ∃ b off u, o = some ⟨b, off, none⟩ ∧ w.cell? ⟨b, off + k, none⟩ = some u ∧ RdT w u row)
theorem RdLT.below {B : Nat} {w w' : World} {v : Value} {xss : List Tb} (h : RdLT w v xss) (hb : Below B w w') (hB : w.heap.size ≤ B := by exact Nat.le_refl _) : RdLT w' v xss := by
 obtain ⟨o, c, rfl, hm, hc⟩ := h
 refine ⟨o, c, rfl, hm, fun k row hx => ?_⟩
 obtain ⟨b, off, u, ho, h0, hr⟩ := hc k row hx
 exact ⟨b, off, u, ho, qA0 hb hB h0, hr.below hb hB⟩
theorem RdLT.base {w : World} {o : Option Addr} {n c : Nat} {xss : List Tb} (h : RdLT w (.slice o n c) xss) (hx : 1 ≤ xss.length) : ∃ b off, o = some ⟨b, off, none⟩ := by
 obtain ⟨o', c', heq, hm, hc⟩ := h
 obtain ⟨rfl, rfl, rfl⟩ : o = o' ∧ n = xss.length ∧ c = c' := by simpa using heq
 obtain ⟨b, off, u, ho, -⟩ := hc 0 xss[0] (by simp)
 exact ⟨b, off, ho⟩
theorem RdLT.at {w : World} {b off n c : Nat} {xss : List Tb} (h : RdLT w (.slice (some ⟨b, off, none⟩) n c) xss) {k : Nat} {row : Tb} (hx : xss[k]? = some row) :
  ∃ o c, w.cell? ⟨b, off + k, none⟩ = some (.slice o row.length c) ∧ RdT w (.slice o row.length c) row := by
 obtain ⟨o', c', heq, hm, hc⟩ := h
 obtain ⟨rfl, -, -⟩ : some ⟨b, off, none⟩ = o' ∧ n = xss.length ∧ c = c' := by simpa using heq
 obtain ⟨b', off', u, ho, h0, h2⟩ := hc k row hx
 obtain ⟨rfl, rfl⟩ : b = b' ∧ off = off' := by simpa using ho
 obtain ⟨o, c, rfl, -, -⟩ := id h2
 exact ⟨o, c, h0, h2⟩

def OwLT (w : World) (B : Nat) (v : Value) (xss : List Tb) : Prop :=
 ∃ us : List Value, us.length = xss.length ∧ w.ownsRow B 24 1 v xss.length us ∧
   (∀ (k : Nat) (u : Value) (row : Tb), us[k]? = some u → xss[k]? = some row → ∃ lo hi, B ≤ lo ∧ Rds lo hi w (fun x => RdT x u row) ∧ ∀ b : Nat, v.ownBlock = some b → b < lo ∨ hi ≤ b)
theorem OwLT.shape {w : World} {B : Nat} {v : Value} {xss : List Tb} (h : OwLT w B v xss) : ∃ o c, v = .slice o xss.length c := by
 obtain ⟨us, hl, ⟨_, hr⟩, -⟩ := h
 rcases hr with ⟨rfl, h0⟩ | ⟨g, cap, cur, rfl, -⟩
 ·exact ⟨none, 0, by rw [h0]⟩
 ·exact ⟨_, _, rfl⟩
theorem OwLT.mono {w : World} {B B' : Nat} {v : Value} {xss : List Tb} (h : OwLT w B v xss) (hB : B' ≤ B) : OwLT w B' v xss := by
 obtain ⟨us, hl, hr, h1⟩ := h
 refine ⟨us, hl, ⟨hr.1, ?_⟩, fun k u row hu hx => ?_⟩
 rcases hr.2 with h | ⟨g, cap, cur, hv, hg, r⟩
 ·exact .inl h
 ·exact .inr ⟨g, cap, cur, hv, Oo, r⟩
 obtain ⟨lo, hi, h0, h2, h3⟩ := h1 k u row hu hx
 exact ⟨lo, hi, Oo, h2, h3⟩
theorem OwLT.lt {w : World} {B : Nat} {v : Value} {xss : List Tb} (h : OwLT w B v xss) : ∀ k, v.ownBlock = some k → B ≤ k ∧ k < w.heap.size := by
 obtain ⟨us, hl, hr, -⟩ := h; exact hr.lt
theorem OwLT.grown {w w' : World} {B : Nat} {v : Value} {xss : List Tb} {r : Option Nat} (h : OwLT w B v xss) (hg : w.grownBy w' r) (hr' : v.ownBlock = none ∨ v.ownBlock ≠ r) (hlo : ∀ b, r = some b → b < B ∨ w.heap.size ≤ b) : OwLT w' B v xss := by
 obtain ⟨us, hl, hr, h1⟩ := h
 refine ⟨us, hl, hr.kept hg hr', fun k u row hu hx => ?_⟩
 obtain ⟨lo, hi, h0, h2, h3⟩ := h1 k u row hu hx
 exact ⟨lo, hi, h0, h2.grown hg (fun b hb => by have := hlo b hb; have := h2.1; omega), h3⟩
theorem OwLT.below {w w' : World} {B : Nat} {v : Value} {xss : List Tb} (h : OwLT w B v xss) (hb : Below w.heap.size w w') : OwLT w' B v xss :=
 h.grown (r := none) ⟨hb.os, hb.tape, hb.output, hb.size, fun k hk _ => hb.block k hk⟩ (by cases e : v.ownBlock <;> simp) (fun b hb => by cases hb)
theorem OwLT.rd {w : World} {B : Nat} {v : Value} {xss : List Tb} (h : OwLT w B v xss) : RdLT w v xss := by
 obtain ⟨us, hl, hr, h1⟩ := h
 rcases id hr.2 with ⟨rfl, h0⟩ | ⟨g, cap, cur, rfl, hg, hh, hn, hcm, hcs, ht⟩
 ·have : xss = [] := List.eq_nil_of_length_eq_zero h0; subst this; exact ⟨none, 0, rfl, ⟨Nat.zero_le _, Nat.zero_le _, fun _ => rfl⟩, fun k row hx => by simp at hx⟩
 ·refine ⟨_, _, rfl, ⟨Oo, hn, fun h => by cases h⟩, fun k row hx => ?_⟩; have hk : k < xss.length := (List.getElem?_eq_some_iff.1 hx).1; have hu : us[k]? = some us[k] := by simp [hl, hk]
  obtain ⟨lo, hi, -, h2, -⟩ := h1 k _ row hu hx; refine ⟨g, 0, us[k], rfl, ?_, h2.now⟩; rw [Nat.zero_add, World.ownsRow.cellAt hr k Oo]; exact hu
theorem OwLT.lit0 (w : World) : OwLT (w.alloc (.cells #[] 24)) w.heap.size (.slice (some ⟨w.heap.size, 0, none⟩) 0 0) [] :=
 ⟨[], rfl, World.ownsRow_lit (base := w.heap.size) (e := 24) (size := 1) w #[] 0 (Nat.le_refl _) (Nat.zero_le _) rfl, by simp⟩
theorem info_t : (Tryz.prog.info? 24).map (fun i => (i.zero, i.size, i.bytes)) = some (some (.slice none 0 0), 1, 24) := by kernel_rfl

section
variable {ops : Array Oper} {rest : List Oper} {o : Oper} {a : Act} {Q : Exit → Act → World → Prop}
end
end
section

def OwLQ (w : World) (B : Nat) (q : Nat) (g n c : Nat) (xss : List Tb) : Prop :=
 n = xss.length ∧ ∃ us : List Value, us.length = xss.length ∧ w.ownsRow B 24 1 (.slice (some ⟨g, 0, none⟩) n c) xss.length us ∧
   (∀ (k : Nat) (u : Value) (row : Tb), us[k]? = some u → xss[k]? = some row → ∃ lo hi, Rds lo hi w (fun x => RdT x u row) ∧ (g < lo ∨ hi ≤ g) ∧ (q < lo ∨ hi ≤ q))
theorem OwLQ.lt {w : World} {B q g n c : Nat} {xss : List Tb} (h : OwLQ w B q g n c xss) : B ≤ g ∧ g < w.heap.size := by
 obtain ⟨-, us, hl, hr, -⟩ := h; exact hr.lt g rfl
theorem OwLQ.mono {w : World} {B B' q g n c : Nat} {xss : List Tb} (h : OwLQ w B q g n c xss) (hB : B' ≤ B) : OwLQ w B' q g n c xss := by
 obtain ⟨hn, us, hl, hr, h1⟩ := h
 refine ⟨hn, us, hl, ⟨hr.1, ?_⟩, h1⟩
 rcases hr.2 with h | ⟨g', cap, cur, hv, hg, r⟩
 ·exact .inl h
 ·exact .inr ⟨g', cap, cur, hv, Oo, r⟩
theorem OwLQ.grown {w w' : World} {B q g n c : Nat} {xss : List Tb} (h : OwLQ w B q g n c xss) (hg : w.grownBy w' (some q)) (hne : g ≠ q) : OwLQ w' B q g n c xss := by
 obtain ⟨hn, us, hl, hr, h1⟩ := h
 refine ⟨hn, us, hl, hr.kept hg (.inr fun e => hne (by simpa [Value.ownBlock] using e)), fun k u row hu hx => ?_⟩
 obtain ⟨lo, hi, h2, h3, h4⟩ := h1 k u row hu hx
 exact ⟨lo, hi, h2.grown hg (fun b hb => by cases hb; exact h4), h3, h4⟩
theorem OwLQ.below {w w' : World} {B q g n c : Nat} {xss : List Tb} (h : OwLQ w B q g n c xss) (hb : Below w.heap.size w w') : OwLQ w' B q g n c xss := by
 obtain ⟨hn, us, hl, hr, h1⟩ := h
 refine ⟨hn, us, hl, hr.kept (row := none) ⟨hb.os, hb.tape, hb.output, hb.size, fun k hk _ => hb.block k hk⟩ (by simp [Value.ownBlock]), fun k u row hu hx => ?_⟩
 obtain ⟨lo, hi, h2, h3⟩ := h1 k u row hu hx
 exact ⟨lo, hi, h2.below hb, h3⟩
theorem OwLQ.other {w w' : World} {B q q' g n c : Nat} {xss : List Tb} (h : OwLQ w B q g n c xss) (hg : w.grownBy w' (some q)) (hne : g ≠ q) (hq : q' = q ∨ q' = w.heap.size) : OwLQ w' B q' g n c xss := by
 obtain ⟨hn, us, hl, hr, h1⟩ := h
 refine ⟨hn, us, hl, hr.kept hg (.inr fun e => hne (by simpa [Value.ownBlock] using e)), fun k u row hu hx => ?_⟩
 obtain ⟨lo, hi, h2, h3, h4⟩ := h1 k u row hu hx
 refine ⟨lo, hi, h2.grown hg (fun b hb => by cases hb; exact h4), h3, ?_⟩
 rcases hq with rfl | rfl
 ·exact h4
 ·exact .inr h2.1
theorem OwLQ.rd {w : World} {B q g n c : Nat} {xss : List Tb} (h : OwLQ w B q g n c xss) : RdLT w (.slice (some ⟨g, 0, none⟩) n c) xss := by
 obtain ⟨hn, us, hl, hr, h1⟩ := h
 subst hn
 rcases id hr.2 with ⟨h', h0⟩ | ⟨g', cap, cur, hv, hg, hh, hcap, hcm, hcs, ht⟩
 ·cases h'
 ·obtain ⟨hg', -, rfl⟩ := Value.slice.inj hv; obtain rfl : g = g' := by simpa using hg'
  refine ⟨_, _, rfl, ⟨Oo, Oo, fun h => by cases h⟩, fun k row hx => ?_⟩; have hk : k < xss.length := (List.getElem?_eq_some_iff.1 hx).1; have hu : us[k]? = some us[k] := by simp [hl, hk]
  obtain ⟨lo, hi, h2, -⟩ := h1 k _ row hu hx; refine ⟨g, 0, us[k], rfl, ?_, h2.now⟩; rw [Nat.zero_add, World.ownsRow.cellAt hr k Oo]; exact hu
theorem OwLQ.lit0 (w : World) (q : Nat) : OwLQ (w.alloc (.cells #[] 24)) w.heap.size q w.heap.size 0 0 [] :=
 ⟨rfl, [], rfl, World.ownsRow_lit (base := w.heap.size) (e := 24) (size := 1) w #[] 0 (Nat.le_refl _) (Nat.zero_le _) rfl, by simp⟩

section
variable {ops : Array Oper} {rest : List Oper} {o : Oper} {a : Act} {Q : Exit → Act → World → Prop}
theorem stLQ {K : Act → World → Prop} {E : Prop} (W : World) (hg : o.guard = none) (s x : Operand) (hop : o.op = .call { callee := .builtin .append, args := #[s, x], argTypes := #[100, 100] })
  (B q g n c : Nat) (xss : List Tb) (hs : a.eval s = .slice (some ⟨g, 0, none⟩) n c) (hown : OwLQ W B q g n c xss) (hB : B ≤ W.heap.size) (u : Value) (row : Tb) (k : Nat) (hx : a.eval x = .slice (some ⟨k, 0, none⟩) 1 1)
  (hc0 : W.cell? ⟨k, 0, none⟩ = some u) (hone : u.oneCell' = true) (hu : ∃ lo hi, Rds lo hi W (fun x => RdT x u row) ∧ (g < lo ∨ hi ≤ g) ∧ (q < lo ∨ hi ≤ q)) (hn : xss.length < 1048576)
  (hK : ∀ g' cap w', OwLQ w' B q g' (n + 1) cap (xss ++ [row]) → W.grownBy w' (some g) → Below B W w' → (g' = g ∨ g' = W.heap.size) → K (a.put o.dst (.slice (some ⟨g', 0, none⟩) (n + 1) cap)) w') :
  if Region.wanted o (yielded ops a.tmps) = true then Oper.wp Tryz.prog o a W K Q else E := by
 have hw : Region.wanted o (yielded ops a.tmps) = true := by simp [Region.wanted, hg]
 rw [if_pos hw]
 obtain ⟨i0, hi, hz0, hz1, hz2⟩ := info_parts info_t
 obtain ⟨rfl, us, hl, hr, h1⟩ := hown
 refine wp_append_lies W s x 100 hop B 24 i0 (.slice none 0 0) 1 24 Tryz.underlying100 hi hz0 hz1 hz2 rfl (by decide) (.slice (some ⟨g, 0, none⟩) xss.length c) xss.length us hs hr ⟨k, 0, none⟩ 1 1 [u] hx rfl (fun j u' hj => ?_) (fun u' hu' => ?_) (by decide) (by unfold maxLen; omega) Oo hB W.heap.size rfl ?_
 ·match j with
  | 0 => simp at hj; subst hj; simpa [Addr.add] using hc0
  | j + 1 => simp at hj
 ·simp at hu'; subst hu'; exact hone
 ·intro g' cap w' hown' hgrow hlies hglt; have hgl := hr.lt g rfl; have hgb : Below B W w' := Below.grown (Below.refl B W) hgrow hB (fun b hb => (hr.lt b hb).1)
  have hl' : g' = g ∨ g' = W.heap.size := by
   rcases hlies with h | h
   ·left; simp only [Value.ownBlock, Option.some.injEq] at h; exact h.symm
   ·exact .inr h
  have hg0 : W.grownBy w' (some g) := hgrow; refine hK g' cap w' ⟨by simp, us ++ [u], by simp [hl], by rw [List.length_append]; exact hown', fun i u' r hi' hxi => ?_⟩ hg0 hgb hl'; rw [List.getElem?_append] at hi' hxi
  have fin : ∀ lo hi, Rds lo hi W (fun x => RdT x u' r) → (g < lo ∨ hi ≤ g) → (q < lo ∨ hi ≤ q) → ∃ lo hi, Rds lo hi w' (fun x => RdT x u' r) ∧ (g' < lo ∨ hi ≤ g') ∧ (q < lo ∨ hi ≤ q) := fun lo hi h2 h3 h4 =>
   ⟨lo, hi, h2.grown hg0 (fun b hb => by cases hb; exact h3), by
    rcases hl' with rfl | rfl
    ·exact h3
    ·exact .inr h2.1, h4⟩
  by_cases hil : i < us.length
  ·rw [if_pos hil] at hi'; rw [if_pos Oo] at hxi; obtain ⟨lo, hi, h2, h3, h4⟩ := h1 i u' r hi' hxi; exact fin lo hi h2 h3 h4
  ·rw [if_neg hil] at hi'; rw [if_neg Oo] at hxi
   have e1 : i - us.length = 0 := by
    have := (List.getElem?_eq_some_iff.1 hi').1; simp at this; omega
   rw [show i - xss.length = 0 by omega] at hxi; rw [e1] at hi'; simp at hi' hxi; subst hi' hxi; obtain ⟨lo, hi, h2, h3, h4⟩ := hu; exact fin lo hi h2 h3 h4
end
end
section

theorem OwI.ne {w : World} {B b k : Nat} {v : Value} {xs : Li} (h : OwI w B v xs) (hb : ∀ j, v.ownBlock = some j → j ≠ b) (u : Value) : OwI (w.setCell ⟨b, k, none⟩ u) B v xs := by
 refine h.kept (qBx w b k u) ?_
 cases e : v.ownBlock with
 | none => exact .inl rfl
 | some j => exact .inr fun e' => hb j e (by simpa using e')

end
end Go.Proofs.YtfpphfjlpgefaaaGreat
