/- Lemmas of HomN. -/
import Derived.Test.YtdnkadlondediaaQcHomM
set_option linter.unusedSimpArgs false
set_option linter.unusedVariables false
namespace Go.Proofs.Ytdnkadlondediaa
open Go.RowKit

theorem RB2.blk {w w' : World} {b : Nat} {x y : Value} (h : RB2 w b x y) (hb : w'.heap[b]? = w.heap[b]?) : RB2 w' b x y := ⟨h.1.blk hb, fun k => (World.frozen?_of_block hb).trans (h.2 k)⟩

def boxS (m : Int) (q g : Nat) (s : Option (List Int)) (u : World) (x0 x1 : Value) (fnd : Bool) : Prop :=
  match s with
  | none => x0 = .int .i64 0 ∧ x1 = .slice none 0 0 ∧ fnd = false
  | some xs => x0 = .int .i64 m ∧ fnd = true ∧ ∃ lo : Nat, g < lo ∧ q + 2 ≤ lo ∧ OwI u lo x1 xs
structure InvS (m : Int) (b q g : Nat) (w : World) (tv sv : Value) (s : Option (List Int)) (o : Option Nat) (u : World) : Prop where
  bel : ∀ k, k < w.heap.size → u.heap[k]? = w.heap[k]?
  F : Box2 u b (.int .i64 m) tv
  G : Box2 u (b + 1) (.int .i64 m) sv
  res : RB2 u (b + 2) (.int .i64 0) (.slice none 0 0)
  no : o = none
  box : ∃ (x0 x1 : Value) (fnd : Bool), RB2 u (q) x0 x1 ∧ Cel1 u (q + 1) 0 (.bool fnd) ∧ (∀ k, u.frozen? ⟨q + 1, k, none⟩ = false) ∧ boxS m q g s u x0 x1 fnd
theorem boxS.stay {m : Int} {q g : Nat} {s : Option (List Int)} {u u' : World} {x0 x1 : Value} {fnd : Bool} (h : boxS m q g s u x0 x1 fnd) (hk : ∀ k, k < u.heap.size → g < k → q + 2 ≤ k → u'.heap[k]? = u.heap[k]?) : boxS m q g s u' x0 x1 fnd := by
  cases s with
  | none => exact h
  | some xs =>
    obtain ⟨h1, h2, lo, h3, h4, h5⟩ := h
    exact ⟨h1, h2, lo, h3, h4, h5.stay (hi := u.heap.size) (fun j hj => (h5.lt j hj).2) (fun k k1 k2 => hk k k2 (by omega) (by omega))⟩
theorem InvS.stay {m : Int} {b q g : Nat} {w : World} {tv sv : Value} {s : Option (List Int)} {o : Option Nat} {u u' : World} (h : InvS m b q g w tv sv s o u) (hw : w.heap.size = b) (hq : b + 3 ≤ q) (hg : q + 2 ≤ g) (hs : u.heap.size ≤ u'.heap.size) (hk : ∀ k, k < u.heap.size → k ≠ g → u'.heap[k]? = u.heap[k]?) : InvS m b q g w tv sv s o u' := by
  obtain ⟨h1, h2, h3, h4, h5, x0, x1, fnd, h6, h7, h8, h9⟩ := h
  have l2 := h2.lt
  have l7 := h7.lt
  have l4 := h4.1.lt
  have l6 := h6.1.lt
  exact ⟨fun k k1 => (hk k (by omega) (by omega)).trans (h1 k k1), h2.blk (hk _ l2 (by omega)), h3.blk (hk _ h3.lt (by omega)), h4.blk (hk _ l4 (by omega)), h5, x0, x1, fnd, h6.blk (hk _ l6 (by omega)), h7.blk (hk _ l7 (by omega)), fun k => (World.frozen?_of_block (hk (q + 1) l7 (by omega))).trans (h8 k), h9.stay (fun k k1 k2 _ => hk k k1 (by omega))⟩
theorem InvS.rd {m : Int} {b q g : Nat} {w : World} {tv sv : Value} {s : Option (List Int)} {o : Option Nat} {u : World} (h : InvS m b q g w tv sv s o u) {v : Value} {t : List (List Int)} (hv : RdT w v t) : RdT u v t := (RdT.rds hv).2 u (fun k _ hk => h.bel k hk)

def stS (m : Int) (n : Nat) (t s : List (List Int)) (xs : List Int) (l : Option (List Int)) : Option (List Int) × Bool := if homB m n t s xs then (some xs, false) else (l, l.isNone)
theorem runS (m : Int) (n : Nat) (t s : List (List Int)) : ∀ (d : Nat) (pre : List Int), runC m.toNat (stS m n t s) d pre none = (match homsL m n t s d pre with | [] => (none, true) | x :: _ => (some x, false))
  | 0, pre => by
    show stS m n t s pre none = _
    unfold stS homsL
    rw [show allC m.toNat 0 pre = [pre] from rfl]
    cases h : homB m n t s pre
    · rw [List.filter_cons_of_neg (by simp [h])]; rfl
    · rw [List.filter_cons_of_pos h]; rfl
  | d + 1, pre => by
    have key : ∀ r x, x + r = m.toNat → loopC (fun x s' => runC m.toNat (stS m n t s) d (pre ++ [(x : Int)]) s') r x none = (match (((List.range r).map (fun i => x + i)).flatMap (fun (i : Nat) => allC m.toNat d (pre ++ [(i : Int)]))).filter (homB m n t s) with | [] => (none, true) | x :: _ => (some x, false)) := by
      intro r
      induction r with
      | zero => intro x _; rfl
      | succ r ih =>
        intro x hx
        unfold loopC
        rw [runS m n t s d (pre ++ [(x : Int)])]
        have e : (List.range (r + 1)).map (fun i => x + i) = x :: (List.range r).map (fun i => x + 1 + i) := by
          rw [List.range_succ_eq_map, List.map_cons, List.map_map]
          congr 1
          exact List.map_congr_left fun i _ => by simp; omega
        rw [e, List.flatMap_cons, List.filter_append]
        unfold homsL
        cases h : (allC m.toNat d (pre ++ [(x : Int)])).filter (homB m n t s) with
        | nil =>
          have := ih (x + 1) (by omega)
          simpa using this
        | cons y l => simp
    have e1 : allC m.toNat (d + 1) pre = (List.range m.toNat).flatMap (fun (x : Nat) => allC m.toNat d (pre ++ [(x : Int)])) := rfl
    have e2 : (List.range m.toNat).map (fun i => 0 + i) = List.range m.toNat := by simp
    have e3 := key m.toNat 0 (by omega)
    rw [e2] at e3
    show loopC _ m.toNat 0 none = _
    rw [e3]
    unfold homsL
    rw [e1]

set_option maxHeartbeats 400000 in
set_option maxRecDepth 100000 in
theorem strict1_c (m : Int) (n b q g : Nat) (w : World) (tv sv : Value) (t s : List (List Int)) (hw : w.heap.size = b) (hq : b + 3 ≤ q) (hg : q + 2 ≤ g) (hm : 2 ≤ m) (hm' : m ≤ 10000) (h2n : 2 ≤ n) (hn : n ≤ 1000) (ht : PlaT m n t) (hs : PlaT m n s) (hv : RdT w tv t) (hu : RdT w sv s)
    (xs : List Int) (l : Option (List Int)) (o : Option Nat) (u0 u : World) (v : Value) (hi : InvS m b q g w tv sv l o u) (hb0 : Below u0.heap.size u0 u) (hB : g < u0.heap.size) (hx : OwI u u0.heap.size v xs) (hl : xs.length = n) (hr : ∀ x ∈ xs, 0 ≤ x ∧ x < m) :
    Calls Try.prog 105 #[.agg #[.int .i64 m, v], .pointer (some ⟨b, 0, none⟩), .pointer (some ⟨b + 1, 0, none⟩), .pointer (some ⟨q, 0, none⟩), .pointer (some ⟨q + 1, 0, none⟩)] u fun e w' =>
      e = .returned (.bool (stS m n t s xs l).2) ∧ ∃ o', InvS m b q g w tv sv (stS m n t s xs l).1 o' w' ∧ (o' = o ∨ ∃ j, o' = some j ∧ u0.heap.size ≤ j) ∧ Ch [q, q + 1] o u w' := by
  obtain ⟨ov, cv, rfl⟩ := hx.shapeN hl
  have HT := Lib.hid ht
  have HS := Lib.hid hs
  have HX := Lib.hid hr
  obtain ⟨ot, ct, rfl, -, -⟩ := id hv
  obtain ⟨os, cs, rfl, -, -⟩ := id hu
  have HV := Lib.hid hv
  have HU := Lib.hid hu
  clear ht hs hr hv hu
  obtain ⟨fb, hfb⟩ : ∃ fb, homB m n t s xs = fb := ⟨_, rfl⟩
  have HFb := Lib.hid hfb
  have HSt := Lib.hid (show stS m n t s xs l = (if fb then (some xs, false) else (l, l.isNone)) by unfold stS; rw [hfb])
  clear hfb
  generalize stS m n t s xs l = rr at HSt
  obtain ⟨r1, r2⟩ := rr
  have hb0s := hb0.size
  have hA : Below u.heap.size u (u.alloc (.cells #[.int .i64 m, .slice ov n cv] 34)) := (by (repeat (first | exact Below.refl _ _ | (refine Below.setCell ?_ (by first | (simp; done) | (simp; omega) | omega) _) | (refine Below.alloc ?_ (by first | (simp; done) | (simp; omega) | omega) _) | (refine below_drewN ?_ _) | (refine Below.drew ?_))))
  have X0 := Box2.mk' u (.int .i64 m) (.slice ov n cv) 34
  have hi0 := hi.stay hw hq hg hA.size (fun k hk _ => hA.block k hk)
  have hx0 := hx.below hA
  have hAs := hA.size
  obtain ⟨f0, f1⟩ := id hi0.F
  obtain ⟨g0, g1⟩ := id hi0.G
  have hRt := hi0.rd HV.out
  have hRs := hi0.rd HU.out
  go_enter Try.func105, Try.ntmps105
  go_wp2_with fail
  refine (isHomomorphism_c m n _ _ _ t s xs fb _ hRt hRs hx0.rd hl h2n hn hm hm' HT.out HS.out HX.out HFb.out).mono ?_
  rintro e u3 ⟨rfl, hb3⟩
  clear f0 f1 g0 g1 hRt hRs
  generalize u.alloc (.cells #[.int .i64 m, .slice ov n cv] 34) = u1 at hA X0 hi0 hx0 hAs hb3
  have hb3s := hb3.size
  have hi3 := hi0.stay hw hq hg hb3s (fun k hk _ => hb3.block k hk)
  have X3 := X0.below hb3 (Nat.le_refl _)
  have hx3 := hx0.below hb3
  have hU3 : Below u.heap.size u u3 := hA.trans (hb3.mono hAs)
  clear hx0 X0 hi0
  obtain ⟨y0, y1, fnd, h6, h7, h8, h9⟩ := hi3.box
  have l6 := h6.1.lt
  have l7 := h7.lt
  obtain ⟨⟨p0, p1⟩, pf⟩ := id h6
  have p7 := h7.get
  cases fb
  · obtain ⟨rfl, rfl⟩ : r1 = l ∧ r2 = l.isNone := by have := HSt.out; simpa using this
    have hfn : fnd = !r1.isNone := by
      cases r1 with
      | none => exact h9.2.2
      | some xs => exact h9.2.1
    subst hfn
    go_wp2
    go_ret
    exact ⟨by simp, o, hi3, .inl rfl, Ch.of_below hU3⟩
  · obtain ⟨rfl, rfl⟩ : r1 = some xs ∧ r2 = false := by have := HSt.out; simpa using this
    obtain ⟨x0, x1⟩ := id X3
    go_wp2
    go_ret
    have hR := (h6.put (.int .i64 m) (.slice ov n cv)).put' (a := ⟨q + 1, 0, none⟩) (by simp) (.bool true)
    have q1 := grown_put u3 (q) 0 (.int .i64 m)
    have q2 := grown_put (u3.setCell ⟨q, 0, none⟩ (.int .i64 m)) (q) 1 (.slice ov n cv)
    have q3 := grown_put ((u3.setCell ⟨q, 0, none⟩ (.int .i64 m)).setCell ⟨q, 1, none⟩ (.slice ov n cv)) (q + 1) 0 (.bool true)
    have c1 : Ch [q, q + 1] o u (((u3.setCell ⟨q, 0, none⟩ (.int .i64 m)).setCell ⟨q, 1, none⟩ (.slice ov n cv)).setCell ⟨q + 1, 0, none⟩ (.bool true)) :=
      (((Ch.of_below hU3).trans (.inl rfl) (Ch.of_grown q1 (by simp))).trans (.inl rfl) (Ch.of_grown q2 (by simp))).trans (.inl rfl) (Ch.of_grown q3 (by simp))
    have hk : ∀ k, k < u3.heap.size → k ≠ q → k ≠ q + 1 → (((u3.setCell ⟨q, 0, none⟩ (.int .i64 m)).setCell ⟨q, 1, none⟩ (.slice ov n cv)).setCell ⟨q + 1, 0, none⟩ (.bool true)).heap[k]? = u3.heap[k]? := fun k k1 k2 k3 =>
      (q3.block k (by simpa using k1) (fun e => by cases e; exact k3 rfl)).trans ((q2.block k (by simpa using k1) (fun e => by cases e; exact k2 rfl)).trans (q1.block k k1 (fun e => by cases e; exact k2 rfl)))
    have z7 : Cel1 (((u3.setCell ⟨q, 0, none⟩ (.int .i64 m)).setCell ⟨q, 1, none⟩ (.slice ov n cv)).setCell ⟨q + 1, 0, none⟩ (.bool true)) (q + 1) 0 (.bool true) := by
      refine ⟨World.cell?_setCell_same (u := .bool fnd) _ _ _ ?_⟩
      rw [World.cell?_setCell_other _ _ _ _ (by simp), World.cell?_setCell_other _ _ _ _ (by simp)]
      exact h7.get
    have lr := hi3.res.1.lt
    refine ⟨rfl, o, ⟨fun k k1 => (hk k (by omega) (by omega) (by omega)).trans (hi3.bel k k1), hi3.F.blk (hk _ hi3.F.lt (by omega) (by omega)), hi3.G.blk (hk _ hi3.G.lt (by omega) (by omega)), hi3.res.blk (hk _ lr (by omega) (by omega)), hi3.no, _, _, true, hR, z7, fun k => ?_, rfl, rfl, u0.heap.size, hB, by omega, ?_⟩, .inl rfl, c1⟩
    · rw [World.frozen?_setCell, World.frozen?_setCell, World.frozen?_setCell]; exact h8 k
    · exact hx3.stay (hi := u3.heap.size) (fun j hj => (hx3.lt j hj).2) (fun k k1 k2 => hk k k2 (by omega) (by omega))
theorem strict1_callable : Callable 105 := fun args w => Try.call105 args w
end Go.Proofs.Ytdnkadlondediaa
