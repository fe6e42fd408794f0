/- Lemmas of HomK. -/
import Derived.Test.YtdnkadlondediaaQcHomJ
set_option linter.unusedSimpArgs false
set_option linter.unusedVariables false
namespace Go.Proofs.Ytdnkadlondediaa
open Go.RowKit

structure InvH (m : Int) (b g : Nat) (w : World) (tv sv : Value) (s : List (List Int)) (o : Option Nat) (u : World) : Prop where
  bel : ∀ k, k < w.heap.size → u.heap[k]? = w.heap[k]?
  F : Box2 u b (.int .i64 m) tv
  G : Box2 u (b + 1) (.int .i64 m) sv
  one : Cel1 u (b + 2) 0 (.bool false)
  fin : Cel1 u (b + 3) 0 (.func (.func 103) #[] #[])
  out : ∃ vs, o = vs.ownBlock ∧ Cel1 u (b + 5) 0 vs ∧ (∀ k, u.frozen? ⟨b + 5, k, none⟩ = false) ∧ OwZ u (b + 4) (fun x => x = b + 5 ∨ x = g) vs m s ∧ (∀ j, vs.ownBlock = some j → j ≠ b + 5 ∧ j ≠ g)
theorem Cel1.lt {w : World} {b f : Nat} {x : Value} (h : Cel1 w b f x) : b < w.heap.size := cell_lt h.get
theorem Cel1.blk {w w' : World} {b f : Nat} {x : Value} (h : Cel1 w b f x) (hb : w'.heap[b]? = w.heap[b]?) : Cel1 w' b f x := ⟨(World.cell?_of_block hb).trans h.get⟩
theorem Box2.blk {w w' : World} {b : Nat} {x y : Value} (h : Box2 w b x y) (hb : w'.heap[b]? = w.heap[b]?) : Box2 w' b x y := ⟨(World.cell?_of_block hb).trans h.1, (World.cell?_of_block hb).trans h.2⟩
theorem InvH.stay {m : Int} {b g : Nat} {w : World} {tv sv : Value} {s : List (List Int)} {o : Option Nat} {u u' : World} (h : InvH m b g w tv sv s o u) (hw : w.heap.size = b) (hg : b + 6 ≤ g) (hs : u.heap.size ≤ u'.heap.size) (hk : ∀ k, k < u.heap.size → k ≠ g → u'.heap[k]? = u.heap[k]?) : InvH m b g w tv sv s o u' := by
  obtain ⟨h1, h2, h3, h4, h5, vs, h6, h7, h8, h9, h10⟩ := h
  have l7 := h7.lt
  have l2 := h2.lt
  refine ⟨fun k k1 => (hk k (by omega) (by omega)).trans (h1 k k1), h2.blk (hk _ h2.lt (by omega)), h3.blk (hk _ h3.lt (by omega)), h4.blk (hk _ h4.lt (by omega)), h5.blk (hk _ h5.lt (by omega)), vs, h6, h7.blk (hk _ l7 (by omega)), fun k => (World.frozen?_of_block (hk (b + 5) l7 (by omega))).trans (h8 k), ?_, h10⟩
  obtain ⟨us, hl, hr, hrow⟩ := h9
  have hlt : ∀ j, vs.ownBlock = some j → j < u.heap.size := fun j hj => (hr.lt j hj).2
  refine ⟨us, hl, ⟨hr.1, ?_⟩, fun k x row hu hx => ?_⟩
  · rcases hr.2 with h | ⟨g', cap, cur, hv, hg', hh, r⟩
    · exact .inl h
    · have hj : vs.ownBlock = some g' := by rw [hv]; rfl
      exact .inr ⟨g', cap, cur, hv, hg', by rw [hk g' (hlt g' hj) (h10 g' hj).2]; exact hh, r⟩
  · obtain ⟨lo, hi, h0, hX, hR, hO⟩ := hrow k x row hu hx
    exact ⟨lo, hi, h0, hX, ⟨Nat.le_trans hR.1 hs, fun y hy => hR.2 y (fun j j1 j2 => (hy j j1 j2).trans (hk j (Nat.lt_of_lt_of_le j2 hR.1) (fun e => by have := hX j (.inr e); omega)))⟩, hO⟩
theorem InvH.own {m : Int} {b g : Nat} {w : World} {tv sv : Value} {s : List (List Int)} {o : Option Nat} {u : World} (h : InvH m b g w tv sv s o u) : ∀ j, o = some j → j < u.heap.size ∧ j ≠ g ∧ b + 4 ≤ j := by
  intro j hj
  obtain ⟨vs, h6, h7, h8, h9, h10⟩ := h.out
  have h9' := h9.S.lt j (by rw [← h6]; exact hj)
  exact ⟨h9'.2, (h10 j (by rw [← h6]; exact hj)).2, h9'.1⟩
theorem InvH.rd {m : Int} {b g : Nat} {w : World} {tv sv : Value} {s : List (List Int)} {o : Option Nat} {u : World} (h : InvH m b g w tv sv s o u) {v : Value} {t : List (List Int)} (hv : RdT w v t) : RdT u v t := (RdT.rds hv).2 u (fun k _ hk => h.bel k hk)

def stH (m : Int) (n : Nat) (t s : List (List Int)) (xs : List Int) (l : List (List Int)) : List (List Int) × Bool := (if homB m n t s xs then l ++ [xs] else l, true)

set_option maxHeartbeats 1000000 in
set_option maxRecDepth 100000 in
theorem homs1_c (m : Int) (n b g : Nat) (w : World) (tv sv : Value) (t s : List (List Int)) (hw : w.heap.size = b) (hg : b + 6 ≤ g) (hm : 2 ≤ m) (hm' : m ≤ 10000) (h2n : 2 ≤ n) (hn : n ≤ 1000) (ht : PlaT m n t) (hs : PlaT m n s) (hv : RdT w tv t) (hu : RdT w sv s)
    (xs : List Int) (l : List (List Int)) (o : Option Nat) (u0 u : World) (v : Value) (hi : InvH m b g w tv sv l o u) (hb0 : Below u0.heap.size u0 u) (hB : g < u0.heap.size) (ho : ∀ j, o = some j → j < u0.heap.size) (hx : OwI u u0.heap.size v xs) (hl : xs.length = n) (hr : ∀ x ∈ xs, 0 ≤ x ∧ x < m) (hM : l.length < 20000) :
    Calls Try.prog 157 #[.agg #[.int .i64 m, v], .pointer (some ⟨b + 3, 0, none⟩), .pointer (some ⟨b, 0, none⟩), .pointer (some ⟨b + 1, 0, none⟩), .pointer (some ⟨b + 5, 0, none⟩), .pointer (some ⟨b + 2, 0, none⟩)] u fun e w' =>
      e = .returned (.bool (stH m n t s xs l).2) ∧ ∃ o', InvH m b g w tv sv (stH m n t s xs l).1 o' w' ∧ (o' = o ∨ ∃ j, o' = some j ∧ u0.heap.size ≤ j) ∧ Ch [b + 5] o u w' := by
  obtain ⟨ov, cv, rfl⟩ := hx.shapeN hl
  have HT := Lib.hid ht
  have HS := Lib.hid hs
  have HX := Lib.hid hr
  have hK := anyCurve_callable
  unfold Callable at hK
  obtain ⟨ot, ct, rfl, -, -⟩ := id hv
  obtain ⟨os, cs, rfl, -, -⟩ := id hu
  have HV := Lib.hid hv
  have HU := Lib.hid hu
  clear ht hs hr hv hu
  obtain ⟨fb, hfb⟩ : ∃ fb, homB m n t s xs = fb := ⟨_, rfl⟩
  have HFb := Lib.hid hfb
  have HSt := Lib.hid (show stH m n t s xs l = (if fb then l ++ [xs] else l, true) by unfold stH; rw [hfb])
  clear hfb
  generalize stH m n t s xs l = rr at HSt
  obtain ⟨r1, r2⟩ := rr
  have hb0s := hb0.size
  have hA : Below u.heap.size u (u.alloc (.cells #[.int .i64 m, .slice ov n cv] 34)) := (by (repeat (first | exact Below.refl _ _ | (refine Below.setCell ?_ (by first | (simp; done) | (simp; omega) | omega) _) | (refine Below.alloc ?_ (by first | (simp; done) | (simp; omega) | omega) _) | (refine below_drewN ?_ _) | (refine Below.drew ?_))))
  have X0 := Box2.mk' u (.int .i64 m) (.slice ov n cv) 34
  have hi0 := hi.stay hw hg hA.size (fun k hk _ => hA.block k hk)
  have hx0 := hx.below hA
  have hAs := hA.size
  have f1 := hi0.fin.get
  go_enter Try.func157, Try.ntmps157
  go_wp2_with fail
  refine (anyCurve_c _ m _).mono ?_
  rintro e u2 ⟨rfl, hb2⟩
  generalize u.alloc (.cells #[.int .i64 m, .slice ov n cv] 34) = u1 at hA X0 hi0 hx0 hAs hb2
  have hb2s := hb2.size
  have hi2 := hi0.stay hw hg hb2s (fun k hk _ => hb2.block k hk)
  have X2 := X0.below hb2 (Nat.le_refl _)
  have hx2 := hx0.below hb2
  clear f1
  obtain ⟨f0, f1⟩ := id hi2.F
  obtain ⟨g0, g1⟩ := id hi2.G
  obtain ⟨x0, x1⟩ := id X2
  have hRt := hi2.rd HV.out
  have hRs := hi2.rd HU.out
  go_wp2_with fail
  refine (isHomomorphism_c m n _ _ _ t s xs fb _ hRt hRs hx2.rd hl h2n hn hm hm' HT.out HS.out HX.out HFb.out).mono ?_
  rintro e u3 ⟨rfl, hb3⟩
  have hb3s := hb3.size
  have hi3 := hi2.stay hw hg hb3s (fun k hk _ => hb3.block k hk)
  have X3 := X2.below hb3 (Nat.le_refl _)
  have hx3 := hx2.below hb3
  have hU3 : Below u.heap.size u u3 := hA.trans ((hb2.mono hAs).trans (hb3.mono (by omega)))
  clear f0 f1 g0 g1 x0 x1 hRt hRs hx2 hx0 X0 X2 hi0 hi2
  have one3 := hi3.one.get
  cases fb
  · obtain ⟨rfl, rfl⟩ : r1 = l ∧ r2 = true := by have := HSt.out; simpa using this
    go_wp2
    go_ret
    exact ⟨rfl, o, hi3, .inl rfl, Ch.of_below hU3⟩
  · obtain ⟨rfl, rfl⟩ : r1 = l ++ [xs] ∧ r2 = true := by have := HSt.out; simpa using this
    obtain ⟨W, hW⟩ : ∃ W : World, W = u3.alloc (.cells #[.int .i64 m, .slice ov n cv] 34) := ⟨_, rfl⟩
    have hWb : Below u3.heap.size u3 W := by rw [hW]; exact (by (repeat (first | exact Below.refl _ _ | (refine Below.setCell ?_ (by first | (simp; done) | (simp; omega) | omega) _) | (refine Below.alloc ?_ (by first | (simp; done) | (simp; omega) | omega) _) | (refine below_drewN ?_ _) | (refine Below.drew ?_))))
    have hWs := hWb.size
    have hi4 := hi3.stay hw hg hWs (fun k hk _ => hWb.block k hk)
    obtain ⟨vs, e6, e7, e8, e9, e10⟩ := hi4.out
    have l7 : b + 5 < u3.heap.size := by
      obtain ⟨vs', -, e7', -⟩ := hi3.out
      exact e7'.lt
    have f5 : u3.cell? ⟨b + 5, 0, none⟩ = some vs := (World.cell?_of_block (hWb.block (b + 5) l7).symm).trans e7.get
    have hC0 : W.cell? ⟨u3.heap.size, 0, none⟩ = some (.int .i64 m) := by rw [hW]; simp
    have hC1 : W.cell? ⟨u3.heap.size, 1, none⟩ = some (.slice ov n cv) := by rw [hW]; simp
    have hxW := hx3.below hWb
    have hrow : ∃ lo hi, b + 4 ≤ lo ∧ (∀ j, (fun x => x = b + 5 ∨ x = g) j → j < lo ∨ hi ≤ j) ∧ Rds lo hi W (fun x => RdI x (.slice ov n cv) xs) ∧ ∀ j : Nat, vs.ownBlock = some j → j < lo ∨ hi ≤ j :=
      ⟨u0.heap.size, W.heap.size, by omega, fun j hj => by rcases hj with rfl | rfl <;> exact .inl (by omega), OwI.rds hxW (by omega), fun j hj => .inl (ho j (by rw [e6]; exact hj))⟩
    have one4 := hi4.one.get
    obtain ⟨x0, x1⟩ := id X3
    have HW := Lib.hid hW
    clear hW
    go_wp2_with (at_builtin; rw [← HW.out]; go_loud (refine apZ W rfl _ _ rfl (b + 4) _ vs m l rfl e9 (by omega) (.slice ov n cv) xs u3.heap.size rfl hC0 hC1 rfl hrow (by omega) ?_; intro g2 cap w4 hO4 hgr hb4 hlie; have f54 : w4.cell? ⟨b + 5, 0, none⟩ = some vs := (World.cell?_of_block (hgr.block (b + 5) (by omega) (fun e => (e10 _ e.symm).1 rfl))).trans e7.get; have z54 : ∀ k, w4.frozen? ⟨b + 5, k, none⟩ = false := (fun k => (World.frozen?_of_block (hgr.block (b + 5) (by omega) (fun e => (e10 _ e.symm).1 rfl))).trans (e8 k)); have o54 : w4.cell? ⟨b + 2, 0, none⟩ = some (.bool false) := (World.cell?_of_block (hb4.block (b + 2) (by omega))).trans one4))
    go_ret
    have hg2 : g2 ≠ b + 5 ∧ g2 ≠ g ∧ (vs.ownBlock = some g2 ∨ u0.heap.size ≤ g2) := by
      rcases hlie with e | e
      · exact ⟨(e10 g2 e).1, (e10 g2 e).2, .inl e⟩
      · exact ⟨by omega, by omega, .inr (by omega)⟩
    have hsz : (w4.setCell ⟨b + 5, 0, none⟩ (.slice (some ⟨g2, 0, none⟩) (l.length + 1) cap)).heap.size = w4.heap.size := by simp
    have hb4s := hb4.size
    have hP := grown_put w4 (b + 5) 0 (.slice (some ⟨g2, 0, none⟩) (l.length + 1) cap)
    have hk : ∀ k, k < b + 4 → (w4.setCell ⟨b + 5, 0, none⟩ (.slice (some ⟨g2, 0, none⟩) (l.length + 1) cap)).heap[k]? = W.heap[k]? := fun k hk => (hP.block k (by omega) (by intro e; cases e; omega)).trans (hb4.block k hk)
    have c54 : Cel1 (w4.setCell ⟨b + 5, 0, none⟩ (.slice (some ⟨g2, 0, none⟩) (l.length + 1) cap)) (b + 5) 0 (.slice (some ⟨g2, 0, none⟩) (l.length + 1) cap) := ⟨World.cell?_setCell_same _ _ _ f54⟩
    refine ⟨rfl, some g2, ⟨fun k hk1 => (hk k (by omega)).trans (hi4.bel k hk1), hi4.F.blk (hk _ (by omega)), hi4.G.blk (hk _ (by omega)), hi4.one.blk (hk _ (by omega)), hi4.fin.blk (hk _ (by omega)), .slice (some ⟨g2, 0, none⟩) (l.length + 1) cap, rfl, c54, fun k => by rw [World.frozen?_setCell]; exact z54 k, ?_, fun j hj => ?_⟩, ?_, ?_⟩
    · refine hO4.stay (by omega) (fun j hj hXj => ?_) (fun k hk1 hX => hP.block k hk1 (fun e => by cases e; exact hX (.inl rfl)))
      obtain rfl : g2 = j := by simpa [Value.ownBlock] using hj
      rcases hXj with e | e
      · exact hg2.1 e
      · exact hg2.2.1 e
    · obtain rfl : g2 = j := by simpa [Value.ownBlock] using hj
      exact ⟨hg2.1, hg2.2.1⟩
    · rcases hg2.2.2 with e | e
      · exact .inl (by rw [e6, e])
      · exact .inr ⟨g2, rfl, e⟩
    · have c1 : Ch [b + 5] o u W := (Ch.of_below (hU3.trans (hWb.mono hU3.size)))
      have c2 : Ch [b + 5] o W w4 := ⟨hgr.os, hgr.tape, hgr.output, hgr.size, fun k hk1 _ h2 => hgr.block k hk1 (by rw [← e6]; exact h2)⟩
      exact (c1.trans (.inl rfl) c2).trans (.inl rfl) (Ch.of_grown hP (by simp))
theorem homs1_callable : Callable 157 := fun args w => Try.call157 args w
end Go.Proofs.Ytdnkadlondediaa
