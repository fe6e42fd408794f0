/- Lemmas. -/
import Derived.Test.YtfpphfjlpgefaaaQAM15
set_option linter.unusedSimpArgs false
set_option linter.unusedVariables false
namespace Go.Proofs.Ytfpphfjlpgefaaa
open Go.RowKit

structure InvH (m : Int) (b g : Nat) (w : World) (tv sv : Value) (s : List (List Int)) (o : Option Nat) (u : World) : Prop where
  bel : ∀ k, k < w.heap.size → u.heap[k]? = w.heap[k]?
  F : Box2 u b (.int .i64 m) tv
  G : Box2 u (b + 1) (.int .i64 m) sv
  one : Cel1 u (b + 2) 0 (.bool false)
  fin : Cel1 u (b + 3) 0 (.func (.func 20) #[] #[])
  out : ∃ vs, o = vs.ownBlock ∧ Cel1 u (b + 5) 0 vs ∧ (∀ k, u.frozen? ⟨b + 5, k, none⟩ = false) ∧ OwP u (b + 4) (fun x => x = b + 5 ∨ x = g) vs (s.map (fun r => (m, r))) ∧ (∀ j, vs.ownBlock = some j → j ≠ b + 5 ∧ j ≠ g)
theorem Cel1.lt {w : World} {b f : Nat} {x : Value} (h : Cel1 w b f x) : b < w.heap.size := cell_lt h.get
theorem Cel1.blk {w w' : World} {b f : Nat} {x : Value} (h : Cel1 w b f x) (hb : w'.heap[b]? = w.heap[b]?) : Cel1 w' b f x := ⟨(World.cell?_of_block hb).trans h.get⟩
theorem Box2.blk {w w' : World} {b : Nat} {x y : Value} (h : Box2 w b x y) (hb : w'.heap[b]? = w.heap[b]?) : Box2 w' b x y := ⟨(World.cell?_of_block hb).trans h.1, (World.cell?_of_block hb).trans h.2⟩
theorem InvH.stay {m : Int} {b g : Nat} {w : World} {tv sv : Value} {s : List (List Int)} {o : Option Nat} {u u' : World} (h : InvH m b g w tv sv s o u) (hw : w.heap.size = b) (hg : b + 6 ≤ g) (hs : u.heap.size ≤ u'.heap.size) (hk : ∀ k, k < u.heap.size → k ≠ g → u'.heap[k]? = u.heap[k]?) : InvH m b g w tv sv s o u' := by
  obtain ⟨h1, h2, h3, h4, h5, vs, h6, h7, h8, h9, h10⟩ := h
  have l7 := h7.lt
  have l2 := h2.lt
  refine ⟨fun k k1 => (hk k (by omega) (by omega)).trans (h1 k k1), h2.blk (hk _ h2.lt (by omega)), h3.blk (hk _ h3.lt (by omega)), h4.blk (hk _ h4.lt (by omega)), h5.blk (hk _ h5.lt (by omega)), vs, h6, h7.blk (hk _ l7 (by omega)), fun k => (World.frozen?_of_block (hk (b + 5) l7 (by omega))).trans (h8 k), h9.stay (fun k _ k2 k3 => hk k k2 (fun e => k3 (.inr e))) (fun _ _ _ h => h), h10⟩
theorem InvH.outT {m : Int} {b g : Nat} {w : World} {tv sv : Value} {s : List (List Int)} {o : Option Nat} {u0 W : World} (h : InvH m b g w tv sv s o u0) (hb : Below u0.heap.size u0 W) :
    ∃ vs, o = vs.ownBlock ∧ Cel1 W (b + 5) 0 vs ∧ (∀ k, W.frozen? ⟨b + 5, k, none⟩ = false) ∧ OwP W (b + 4) (fun x => (x = b + 5 ∨ x = g) ∨ u0.heap.size ≤ x) vs (s.map (fun r => (m, r))) ∧ (∀ j, vs.ownBlock = some j → j ≠ b + 5 ∧ j ≠ g) := by
  obtain ⟨vs, h6, h7, h8, h9, h10⟩ := h.out
  exact ⟨vs, h6, h7.blk (hb.block _ h7.lt), fun k => (World.frozen?_of_block (hb.block (b + 5) h7.lt)).trans (h8 k), h9.top.below hb, h10⟩
theorem InvH.own {m : Int} {b g : Nat} {w : World} {tv sv : Value} {s : List (List Int)} {o : Option Nat} {u : World} (h : InvH m b g w tv sv s o u) : ∀ j, o = some j → j < u.heap.size ∧ j ≠ g ∧ b + 4 ≤ j := by
  intro j hj
  obtain ⟨vs, h6, h7, h8, h9, h10⟩ := h.out
  have h9' := h9.lt j (by rw [← h6]; exact hj)
  exact ⟨h9'.2, (h10 j (by rw [← h6]; exact hj)).2, h9'.1⟩
theorem InvH.rd {m : Int} {b g : Nat} {w : World} {tv sv : Value} {s : List (List Int)} {o : Option Nat} {u : World} (h : InvH m b g w tv sv s o u) {v : Value} {t : List (List Int)} (hv : RdT w v t) : RdT u v t := (RdT.rds hv).2 u (fun k _ hk => h.bel k hk)

def stH (m : Int) (n : Nat) (t s : List (List Int)) (xs : List Int) (l : List (List Int)) : List (List Int) × Bool := (if homB m n t s xs then l ++ [xs] else l, true)

set_option maxHeartbeats 1000000 in
set_option maxRecDepth 100000 in
theorem homs1_c (m : Int) (n b g : Nat) (w : World) (tv sv : Value) (t s : List (List Int)) (hw : w.heap.size = b) (hg : b + 6 ≤ g) (hm : 2 ≤ m) (hm' : m ≤ 10000) (h2n : 2 ≤ n) (hn : n ≤ 1000) (ht : PlaT m n t) (hs : PlaT m n s) (hv : RdT w tv t) (hu : RdT w sv s)
    (xs : List Int) (l : List (List Int)) (o : Option Nat) (u0 u : World) (v : Value) (hi' : InvH m b g w tv sv l o u0) (hi : InvH m b g w tv sv l o u) (hb0 : Below u0.heap.size u0 u) (hB : g < u0.heap.size) (ho : ∀ j, o = some j → j < u0.heap.size) (hx : OwI u u0.heap.size v xs) (hl : xs.length = n) (hr : ∀ x ∈ xs, 0 ≤ x ∧ x < m) (hM : l.length < 20000) :
    Calls Try.prog 37 #[.agg #[.int .i64 m, v], .pointer (some ⟨b + 3, 0, none⟩), .pointer (some ⟨b, 0, none⟩), .pointer (some ⟨b + 1, 0, none⟩), .pointer (some ⟨b + 5, 0, none⟩), .pointer (some ⟨b + 2, 0, none⟩)] u fun e w' =>
      e = .returned (.bool (stH m n t s xs l).2) ∧ ∃ o', InvH m b g w tv sv (stH m n t s xs l).1 o' w' ∧ (o' = o ∨ ∃ j, o' = some j ∧ u0.heap.size ≤ j) ∧ Ch [b + 5] o u w' := by
  obtain ⟨ov, cv, rfl⟩ := hx.shapeN hl
  have HT := Lib.hid ht
  have HS := Lib.hid hs
  have HX := Lib.hid hr
  have hK := anyCurve_callable
  unfold Callable at hK
  obtain ⟨ot, ct, rfl, -, -⟩ := id hv
  obtain ⟨os, cs, rfl, -, -⟩ := id hu
  have HV := Lib.hid hv
  have HU := Lib.hid hu
  clear ht hs hr hv hu
  obtain ⟨fb, hfb⟩ : ∃ fb, homB m n t s xs = fb := ⟨_, rfl⟩
  have HFb := Lib.hid hfb
  have HSt := Lib.hid (show stH m n t s xs l = (if fb then l ++ [xs] else l, true) by unfold stH; rw [hfb])
  clear hfb
  generalize stH m n t s xs l = rr at HSt
  obtain ⟨r1, r2⟩ := rr
  have hb0s := hb0.size
  have hA : Below u.heap.size u (u.alloc (.cells #[.int .i64 m, .slice ov n cv] 41)) := (by (repeat (first | exact bR _ _ | (refine bS ?_ _) | (refine bA ?_ _) | (refine bN ?_ _) | (refine bD ?_))))
  have X0 := Box2.mk' u (.int .i64 m) (.slice ov n cv) 41
  have hi0 := hi.stay hw hg hA.size (fun k hk _ => hA.block k hk)
  have hx0 := hx.below hA
  have hAs := hA.size
  have f1 := hi0.fin.get
  go_enter Try.func37, Try.ntmps37
  go_wp2_with fail
  refine (anyCurve_c _ m _).mono ?_
  rintro e u2 ⟨rfl, hb2⟩
  generalize u.alloc (.cells #[.int .i64 m, .slice ov n cv] 41) = u1 at hA X0 hi0 hx0 hAs hb2
  have hb2s := hb2.size
  have hi2 := hi0.stay hw hg hb2s (fun k hk _ => hb2.block k hk)
  have X2 := X0.below hb2 (Nat.le_refl _)
  have hx2 := hx0.below hb2
  clear f1
  obtain ⟨f0, f1⟩ := id hi2.F
  obtain ⟨g0, g1⟩ := id hi2.G
  obtain ⟨x0, x1⟩ := id X2
  have hRt := hi2.rd HV.out
  have hRs := hi2.rd HU.out
  go_wp2_with fail
  refine (isHomomorphism_c m n _ _ _ t s xs fb _ hRt hRs hx2.rd hl h2n hn hm hm' HT.out HS.out HX.out HFb.out).mono ?_
  rintro e u3 ⟨rfl, hb3⟩
  have hb3s := hb3.size
  have hi3 := hi2.stay hw hg hb3s (fun k hk _ => hb3.block k hk)
  have X3 := X2.below hb3 (Nat.le_refl _)
  have hx3 := hx2.below hb3
  have hU3 : Below u.heap.size u u3 := hA.trans ((hb2.mono hAs).trans (hb3.mono (by omega)))
  clear f0 f1 g0 g1 x0 x1 hRt hRs hx2 hx0 X0 X2 hi0 hi2
  have one3 := hi3.one.get
  cases fb
  · obtain ⟨rfl, rfl⟩ : r1 = l ∧ r2 = true := by have := HSt.out; simpa using this
    go_wp2
    go_ret
    exact ⟨rfl, o, hi3, .inl rfl, Ch.of_below hU3⟩
  · obtain ⟨rfl, rfl⟩ : r1 = l ++ [xs] ∧ r2 = true := by have := HSt.out; simpa using this
    obtain ⟨W, hW⟩ : ∃ W : World, W = u3.alloc (.cells #[.int .i64 m, .slice ov n cv] 41) := ⟨_, rfl⟩
    have hWb : Below u3.heap.size u3 W := by rw [hW]; exact (by (repeat (first | exact bR _ _ | (refine bS ?_ _) | (refine bA ?_ _) | (refine bN ?_ _) | (refine bD ?_))))
    have hWs := hWb.size
    have hi4 := hi3.stay hw hg hWs (fun k hk _ => hWb.block k hk)
    have hbW : Below u0.heap.size u0 W := hb0.trans ((hU3.trans (hWb.mono hU3.size)).mono hb0s)
    obtain ⟨vs, e6, e7, e8, e9, e10⟩ := hi'.outT hbW
    have l7 : b + 5 < u3.heap.size := by
      obtain ⟨vs', -, e7', -⟩ := hi3.out
      exact e7'.lt
    have f5 : u3.cell? ⟨b + 5, 0, none⟩ = some vs := (World.cell?_of_block (hWb.block (b + 5) l7).symm).trans e7.get
    have hC0 : W.cell? ⟨u3.heap.size, 0, none⟩ = some (.int .i64 m) := by rw [hW]; simp
    have hC1 : W.cell? ⟨u3.heap.size, 1, none⟩ = some (.slice ov n cv) := by rw [hW]; simp
    have hxW := hx3.below hWb
    have hub : ∀ j, (Value.slice ov n cv).ownBlock = some j → u0.heap.size ≤ j ∧ ¬ (j = b + 5 ∨ j = g) := fun j hj => by
      have := (hxW.lt j hj).1
      omega
    have one4 := hi4.one.get
    obtain ⟨x0, x1⟩ := id X3
    have HW := Lib.hid hW
    clear hW
    go_wp2_with (at_builtin; rw [← HW.out]; go_loud (refine apP W rfl _ _ rfl (b + 4) u0.heap.size _ vs (l.map (fun r => (m, r))) rfl e9 (by omega) (by omega) m (.slice ov n cv) xs u3.heap.size rfl hC0 hC1 rfl (hxW.mono (by omega)) hub (by omega) (by rw [List.length_map]; omega) ?_; intro g2 cap w4 hO4 hgr hb4 hlie; rw [List.length_map] at hO4 ⊢; rw [show l.map (fun r => (m, r)) ++ [(m, xs)] = (l ++ [xs]).map (fun r => (m, r)) by simp] at hO4; have f54 : w4.cell? ⟨b + 5, 0, none⟩ = some vs := (World.cell?_of_block (hgr.block (b + 5) (by omega) (fun e => (e10 _ e.symm).1 rfl))).trans e7.get; have z54 : ∀ k, w4.frozen? ⟨b + 5, k, none⟩ = false := (fun k => (World.frozen?_of_block (hgr.block (b + 5) (by omega) (fun e => (e10 _ e.symm).1 rfl))).trans (e8 k)); have o54 : w4.cell? ⟨b + 2, 0, none⟩ = some (.bool false) := (World.cell?_of_block (hb4.block (b + 2) (by omega))).trans one4))
    go_ret
    have hg2 : g2 ≠ b + 5 ∧ g2 ≠ g ∧ (vs.ownBlock = some g2 ∨ u0.heap.size ≤ g2) := by
      rcases hlie with e | e
      · exact ⟨(e10 g2 e).1, (e10 g2 e).2, .inl e⟩
      · exact ⟨by omega, by omega, .inr (by omega)⟩
    have hsz : (w4.setCell ⟨b + 5, 0, none⟩ (.slice (some ⟨g2, 0, none⟩) (l.length + 1) cap)).heap.size = w4.heap.size := by simp
    have hb4s := hb4.size
    have hP := grown_put w4 (b + 5) 0 (.slice (some ⟨g2, 0, none⟩) (l.length + 1) cap)
    have hk : ∀ k, k < b + 4 → (w4.setCell ⟨b + 5, 0, none⟩ (.slice (some ⟨g2, 0, none⟩) (l.length + 1) cap)).heap[k]? = W.heap[k]? := fun k hk => (hP.block k (by omega) (by intro e; cases e; omega)).trans (hb4.block k hk)
    have c54 : Cel1 (w4.setCell ⟨b + 5, 0, none⟩ (.slice (some ⟨g2, 0, none⟩) (l.length + 1) cap)) (b + 5) 0 (.slice (some ⟨g2, 0, none⟩) (l.length + 1) cap) := ⟨World.cell?_setCell_same _ _ _ f54⟩
    refine ⟨rfl, some g2, ⟨fun k hk1 => (hk k (by omega)).trans (hi4.bel k hk1), hi4.F.blk (hk _ (by omega)), hi4.G.blk (hk _ (by omega)), hi4.one.blk (hk _ (by omega)), hi4.fin.blk (hk _ (by omega)), .slice (some ⟨g2, 0, none⟩) (l.length + 1) cap, rfl, c54, fun k => by rw [World.frozen?_setCell]; exact z54 k, ?_, fun j hj => ?_⟩, ?_, ?_⟩
    · exact hO4.stay (fun k _ hk1 hX => hP.block k hk1 (fun e => by cases e; exact hX (.inl rfl))) (fun _ _ _ h => h)
    · obtain rfl : g2 = j := by simpa [Value.ownBlock] using hj
      exact ⟨hg2.1, hg2.2.1⟩
    · rcases hg2.2.2 with e | e
      · exact .inl (by rw [e6, e])
      · exact .inr ⟨g2, rfl, e⟩
    · have c1 : Ch [b + 5] o u W := (Ch.of_below (hU3.trans (hWb.mono hU3.size)))
      have c2 : Ch [b + 5] o W w4 := ⟨hgr.os, hgr.tape, hgr.output, hgr.size, fun k hk1 _ h2 => hgr.block k hk1 (by rw [← e6]; exact h2)⟩
      exact (c1.trans (.inl rfl) c2).trans (.inl rfl) (Ch.of_grown hP (by simp))
theorem homs1_callable : Callable 37 := fun args w => Try.call37 args w
end Go.Proofs.Ytfpphfjlpgefaaa
set_option linter.unusedSimpArgs false
set_option linter.unusedVariables false
namespace Go.Proofs.Ytfpphfjlpgefaaa
open Go.RowKit

theorem loopC_true {S : Type} (f : Nat → S → S × Bool) (h : ∀ x s, (f x s).2 = true) : ∀ (r x : Nat) (s : S), loopC f r x s = ((List.range r).foldl (fun s i => (f (x + i) s).1) s, true)
  | 0, x, s => rfl
  | r + 1, x, s => by
    unfold loopC
    rw [if_pos (h x s), loopC_true f h r (x + 1) _, List.range_succ_eq_map, List.foldl_cons, List.foldl_map]
    congr 1
    congr 1
    funext s i
    rw [show x + 1 + i = x + (i + 1) by omega]
theorem runC_true {S : Type} (m : Nat) (st : List Int → S → S × Bool) (h : ∀ xs s, (st xs s).2 = true) : ∀ (d : Nat) (pre : List Int) (s : S), runC m st d pre s = ((allC m d pre).foldl (fun s xs => (st xs s).1) s, true)
  | 0, pre, s => by
    show st pre s = _
    rw [show allC m 0 pre = [pre] from rfl]
    exact Prod.ext rfl (h pre s)
  | d + 1, pre, s => by
    show loopC (fun x s => runC m st d (pre ++ [(x : Int)]) s) m 0 s = _
    rw [loopC_true _ (fun x s => by rw [runC_true m st h d])]
    unfold allC
    rw [List.foldl_flatMap]
    congr 1
    congr 1
    funext s i
    rw [runC_true m st h d, Nat.zero_add]
theorem foldH (m : Int) (n : Nat) (t s : List (List Int)) : ∀ (L : List (List Int)) (l : List (List Int)), L.foldl (fun l xs => (stH m n t s xs l).1) l = l ++ L.filter (homB m n t s)
  | [], l => by simp
  | x :: L, l => by
    rw [List.foldl_cons, foldH m n t s L]
    unfold stH
    cases h : homB m n t s x
    · rw [List.filter_cons_of_neg (by simp [h])]; simp
    · rw [List.filter_cons_of_pos h]; simp
theorem runH (m : Int) (n : Nat) (t s : List (List Int)) (d : Nat) (pre : List Int) : runC m.toNat (stH m n t s) d pre [] = (homsL m n t s d pre, true) := by
  rw [runC_true _ _ (fun _ _ => rfl), foldH]; rfl

structure St6 (m : Int) (b : Nat) (w : World) (tv sv : Value) (w6 : World) : Prop where
  bel : Below b w w6
  size : w6.heap.size = b + 6
  F : Box2 w6 b (.int .i64 m) tv
  G : Box2 w6 (b + 1) (.int .i64 m) sv
  one : Cel1 w6 (b + 2) 0 (.bool false)
  fin : Cel1 w6 (b + 3) 0 (.func (.func 20) #[] #[])
  out : Cel1 w6 (b + 5) 0 (.slice (some ⟨b + 4, 0, none⟩) 0 0)
  fz : ∀ k, w6.frozen? ⟨b + 5, k, none⟩ = false
  own : ∀ X : Nat → Prop, ¬ X (b + 4) → OwP w6 (b + 4) X (.slice (some ⟨b + 4, 0, none⟩) 0 0) []
theorem St6.mk' (m : Int) (b : Nat) (w : World) (tv sv : Value) (hb : w.heap.size = b) : St6 m b w tv sv ((((((w.alloc (.cells #[.int .i64 m, tv] 29)).alloc (.cells #[.int .i64 m, sv] 29)).alloc (.cells #[.bool false] 4)).alloc (.cells #[.func (.func 20) #[] #[]] 47)).alloc (.cells #[] 41)).alloc (.cells #[.slice (some ⟨b + 1 + 1 + 1 + 1, 0, none⟩) 0 0] 26)) := by
  have c1 : ∀ (u : World) (x : Value) (t : TypeId), Cel1 (u.alloc (.cells #[x] t)) u.heap.size 0 x := fun u x t => ⟨by simp⟩
  have al : ∀ (u : World) (o : Obj), Below u.heap.size u (u.alloc o) := fun u o => (by (repeat (first | exact bR _ _ | (refine bS ?_ _) | (refine bA ?_ _) | (refine bN ?_ _) | (refine bD ?_))))
  have sz : ∀ (u : World) (o : Obj), (u.alloc o).heap.size = u.heap.size + 1 := fun u o => by simp
  have kb : ∀ {u : World} {g : Nat} {x y : Value} (o : Obj), Box2 u g x y → Box2 (u.alloc o) g x y := fun o h => h.below (al _ _) (Nat.le_refl _)
  have kc : ∀ {u : World} {g : Nat} {x : Value} (o : Obj), Cel1 u g 0 x → Cel1 (u.alloc o) g 0 x := fun o h => h.below (al _ _) (Nat.le_refl _)
  generalize h1 : w.alloc (.cells #[.int .i64 m, tv] 29) = w1
  have F1 : Box2 w1 b (.int .i64 m) tv := by rw [← h1, ← hb]; exact Box2.mk' _ _ _ _
  have B1 : Below b w w1 := by rw [← h1, ← hb]; exact al _ _
  have s1 : w1.heap.size = b + 1 := by rw [← h1, sz, hb]
  clear h1
  generalize h2 : w1.alloc (.cells #[.int .i64 m, sv] 29) = w2
  have F2 : Box2 w2 b (.int .i64 m) tv := by rw [← h2]; exact kb _ F1
  have G2 : Box2 w2 (b + 1) (.int .i64 m) sv := by rw [← h2, ← s1]; exact Box2.mk' _ _ _ _
  have B2 : Below b w w2 := by rw [← h2]; exact B1.trans ((al _ _).mono (by omega))
  have s2 : w2.heap.size = b + 2 := by rw [← h2, sz, s1]
  clear h2 F1 B1
  generalize h3 : w2.alloc (.cells #[.bool false] 4) = w3
  have F3 : Box2 w3 b (.int .i64 m) tv := by rw [← h3]; exact kb _ F2
  have G3 : Box2 w3 (b + 1) (.int .i64 m) sv := by rw [← h3]; exact kb _ G2
  have O3 : Cel1 w3 (b + 2) 0 (.bool false) := by rw [← h3, ← s2]; exact c1 _ _ _
  have B3 : Below b w w3 := by rw [← h3]; exact B2.trans ((al _ _).mono (by omega))
  have s3 : w3.heap.size = b + 3 := by rw [← h3, sz, s2]
  clear h3 F2 G2 B2
  generalize h4 : w3.alloc (.cells #[.func (.func 20) #[] #[]] 47) = w4
  have F4 : Box2 w4 b (.int .i64 m) tv := by rw [← h4]; exact kb _ F3
  have G4 : Box2 w4 (b + 1) (.int .i64 m) sv := by rw [← h4]; exact kb _ G3
  have O4 : Cel1 w4 (b + 2) 0 (.bool false) := by rw [← h4]; exact kc _ O3
  have A4 : Cel1 w4 (b + 3) 0 (.func (.func 20) #[] #[]) := by rw [← h4, ← s3]; exact c1 _ _ _
  have B4 : Below b w w4 := by rw [← h4]; exact B3.trans ((al _ _).mono (by omega))
  have s4 : w4.heap.size = b + 4 := by rw [← h4, sz, s3]
  clear h4 F3 G3 O3 B3
  have Z5 := fun X (hX : ¬ X w4.heap.size) => OwP.nil w4 X hX
  generalize h5 : w4.alloc (.cells #[] 41) = w5 at Z5 ⊢
  rw [s4] at Z5
  have s5 : w5.heap.size = b + 5 := by rw [← h5, sz, s4]
  have e5 : Below w4.heap.size w4 w5 := by rw [← h5]; exact al _ _
  have e6 := al w5 (.cells #[.slice (some ⟨b + 1 + 1 + 1 + 1, 0, none⟩) 0 0] 26)
  have e56 : Below w4.heap.size w4 (w5.alloc (.cells #[.slice (some ⟨b + 1 + 1 + 1 + 1, 0, none⟩) 0 0] 26)) := e5.trans (e6.mono (by omega))
  refine ⟨B4.trans (e56.mono (by omega)), by rw [sz, s5], F4.below e56 (Nat.le_refl _), G4.below e56 (Nat.le_refl _), O4.below e56 (Nat.le_refl _), A4.below e56 (Nat.le_refl _), ?_, fun k => ?_, fun X hX => ?_⟩
  · rw [← s5]; exact c1 _ _ _
  · rw [← s5]; exact frozen_new _ _ _ _
  · exact (Z5 X hX).stay (fun k _ hk _ => e6.block k hk) (fun _ _ _ h => h)

theorem homsWalk (m kk : Int) (n b g cz : Nat) (w u : World) (tv sv : Value) (t s : List (List Int)) (hkk : kk = 1) (hw : w.heap.size = b) (hg : b + 6 ≤ g) (hgu : g < u.heap.size) (hm : 2 ≤ m) (hm' : m ≤ 10000) (h2n : 2 ≤ n) (hn : n ≤ 1000) (ht : PlaT m n t) (hs : PlaT m n s) (hv : RdT w tv t) (hu : RdT w sv s) (hM : m.toNat ^ (n - 1) ≤ 20000)
    (hi : InvH m b g w tv sv [] (some (b + 4)) u) (hr : OwI u g (.slice (some ⟨g, 0, none⟩) n cz) (List.replicate n 0)) :
    Calls Try.prog 35 #[.agg #[.int .i64 m, .slice (some ⟨g, 0, none⟩) n cz], .int .i64 kk, .func (.func 37) #[] #[.pointer (some ⟨b + 1 + 1 + 1, 0, none⟩), .pointer (some ⟨b, 0, none⟩), .pointer (some ⟨b + 1, 0, none⟩), .pointer (some ⟨b + 1 + 1 + 1 + 1 + 1, 0, none⟩), .pointer (some ⟨b + 1 + 1, 0, none⟩)]] u fun e w' =>
      e = .returned (.bool true) ∧ ∃ o', InvH m b g w tv sv (homsL m n t s (n - 1) [0]) o' w' ∧ Ch [g, b + 5] (some (b + 4)) u w' := by
  subst hkk
  have hR := runH m n t s (n - 1) [0]
  have h1 : (List.replicate n (0 : Int)).take 1 = [0] := by rw [List.take_replicate, Nat.min_eq_left (by omega)]; rfl
  have hC := curves_c (S := List (List Int)) m n 37 #[.pointer (some ⟨b + 3, 0, none⟩), .pointer (some ⟨b, 0, none⟩), .pointer (some ⟨b + 1, 0, none⟩), .pointer (some ⟨b + 5, 0, none⟩), .pointer (some ⟨b + 2, 0, none⟩)] (stH m n t s) (InvH m b g w tv sv) [b + 5] (g + 1) g cz [0] List.length 20000
    (fun xs l => by unfold stH; simp only; split <;> simp) hm hm' hn homs1_callable (by omega) (fun x hx => by simp at hx; omega) (by simp; omega)
    (fun l o x x' hi hs hk => hi.stay hw hg hs hk) (fun l o x hi j hj => ⟨(hi.own j hj).1, (hi.own j hj).2.1⟩)
    (fun xs l o x0 x v hi' hi hb0 hB ho hx hl hr _ hM => homs1_c m n b g w tv sv t s hw hg hm hm' h2n hn ht hs hv hu xs l o x0 x v hi' hi hb0 (by omega) ho hx hl hr hM)
    (n - 1) 1 (List.replicate n 0) [] (some (b + 4)) u (by omega) (by simp) (fun x hx => by simp at hx; omega) hr hi (by omega) (by simp) h1 (by simpa using hM)
  rw [h1, hR] at hC
  refine hC.mono ?_
  rintro e w' ⟨rfl, o', hi', ho', hc', -⟩
  exact ⟨rfl, o', hi', hc'⟩

set_option maxHeartbeats 1000000 in
set_option maxRecDepth 100000 in
theorem homomorphisms_c (m : Int) (n : Nat) (tv sv : Value) (t s : List (List Int)) (w : World) (hm : 2 ≤ m) (hm' : m ≤ 10000) (h2n : 2 ≤ n) (hn : n ≤ 1000) (ht : PlaT m n t) (hs : PlaT m n s) (hv : RdT w tv t) (hu : RdT w sv s) (hM : m.toNat ^ (n - 1) ≤ 20000) :
    Calls Try.prog 19 #[.agg #[.int .i64 m, tv], .agg #[.int .i64 m, sv], .bool false, .func (.func 20) #[] #[]] w fun e w' =>
      ∃ v', e = .returned v' ∧ OwP w' w.heap.size (fun _ => False) v' ((homsL m n t s (n - 1) [0]).map (fun r => (m, r))) ∧ Below w.heap.size w w' := by
  obtain ⟨ot, ct, rfl, hmt, -⟩ := id hv
  obtain ⟨os, cs, rfl, hms, -⟩ := id hu
  have hml := hmt.1
  have HT := Lib.hid ht
  have HS := Lib.hid hs
  have e0 := ht.1
  have e1 := hs.1
  rw [e0] at hv hml ⊢
  rw [e1] at hu ⊢
  clear ht hs hmt hms
  obtain ⟨b, hb⟩ : ∃ b, w.heap.size = b := ⟨_, rfl⟩
  go_enter Try.func19, Try.ntmps19
  go_wp2_with fail
  have hS6 := St6.mk' m b w (.slice ot n ct) (.slice os n cs) hb
  generalize ((((((w.alloc (.cells #[.int .i64 m, .slice ot n ct] 29)).alloc (.cells #[.int .i64 m, .slice os n cs] 29)).alloc (.cells #[.bool false] 4)).alloc (.cells #[.func (.func 20) #[] #[]] 47)).alloc (.cells #[] 41)).alloc (.cells #[.slice (some ⟨b + 1 + 1 + 1 + 1, 0, none⟩) 0 0] 26)) = w6 at hS6 ⊢
  have s6 := hS6.size
  have F6 := hS6.F
  have hd0 : Below w6.heap.size w6 w6.drew := (Below.refl _ _).drew
  have hsd0 := hd0.size
  obtain ⟨f0_a, f0_b⟩ := ((F6).below (Below.refl w6.heap.size w6) (Nat.le_refl _))
  refine wp_region_K (S := fun w' => w'.cell? ⟨b, 0, none⟩ = some (.int .i64 m) ∧ w'.cell? ⟨b, 1, none⟩ = some (.slice ot n ct)) [6] (by kernel_rfl) ?_
  have hHeld : (fun w' : World => w'.cell? ⟨b, 0, none⟩ = some (.int .i64 m) ∧ w'.cell? ⟨b, 1, none⟩ = some (.slice ot n ct)) w6.drew := by go_keep
  refine' wpAnyK_takeL (i := 0) (v := _) rfl (by kernel_rfl) (by kernel_rfl) (by kernel_rfl) (by kernel_rfl) (fun _ _ _ h => h) (Or.inl ⟨by rfl, ?yT1⟩) hHeld ?rT1
  case yT1 => (intro w' hSw; (try dsimp only at hSw); go_simp; try with_reducible rfl)
  try simp only [List.getElem_toArray, List.getElem_cons_zero, List.getElem_cons_succ, Act.put, List.setIfInBounds_toArray, List.set_cons_zero, List.set_cons_succ]
  refine' wpAnyK_takeL (i := 1) (v := _) rfl (by kernel_rfl) (by kernel_rfl) (by kernel_rfl) (by kernel_rfl) (fun _ _ _ h => h) (Or.inl ⟨by rfl, ?yT2⟩) hHeld ?rT2
  case yT2 => (intro w' hSw; (try dsimp only at hSw); go_simp; try with_reducible rfl)
  try simp only [List.getElem_toArray, List.getElem_cons_zero, List.getElem_cons_succ, Act.put, List.setIfInBounds_toArray, List.set_cons_zero, List.set_cons_succ]
  refine' wpAnyK_takeL (i := 2) (v := _) rfl (by kernel_rfl) (by kernel_rfl) (by kernel_rfl) (by kernel_rfl) (fun _ _ _ h => h) (Or.inl ⟨by rfl, ?yT3⟩) hHeld ?rT3
  case yT3 => (intro w' hSw; (try dsimp only at hSw); go_simp; try with_reducible rfl)
  try simp only [List.getElem_toArray, List.getElem_cons_zero, List.getElem_cons_succ, Act.put, List.setIfInBounds_toArray, List.set_cons_zero, List.set_cons_succ]
  refine' wpAnyK_takeL (i := 5) (v := _) rfl (by kernel_rfl) (by kernel_rfl) (by kernel_rfl) (by kernel_rfl) (fun _ _ _ h => h) (Or.inl ⟨by rfl, ?yT4⟩) hHeld ?rT4
  case yT4 => (intro w' hSw; (try dsimp only at hSw); go_simp; try with_reducible rfl)
  try simp only [List.getElem_toArray, List.getElem_cons_zero, List.getElem_cons_succ, Act.put, List.setIfInBounds_toArray, List.set_cons_zero, List.set_cons_succ]
  refine wpAnyK_oneL (i := 3) rfl (by kernel_rfl) (fun K hK => ?_)
  go_simp
  go_at_call 18
  refine (degreeP_c m ot n ct _ hml).mono ?_
  rintro e wd1 ⟨rfl, hbd1⟩
  have hd1 : Below w6.heap.size w6 wd1 := (by (repeat (first | exact bR _ _ | (refine bS ?_ _) | (refine bA ?_ _) | (refine bN ?_ _) | (refine bD ?_) | (refine bT ?_ hbd1))))
  have hsd1 := hd1.size
  have hsz1_ := hbd1.size
  (try simp at hsz1_)
  obtain ⟨f1_a, f1_b⟩ := ((F6).below hd1 (Nat.le_refl _))
  go_wp2_with fail
  clear hHeld
  have hHeld : (fun w' : World => w'.cell? ⟨b, 0, none⟩ = some (.int .i64 m) ∧ w'.cell? ⟨b, 1, none⟩ = some (.slice ot n ct)) wd1 := by go_keep
  refine hK.out _ _ (fun _ => hHeld) ?_
  clear hK K
  try simp only [List.getElem_toArray, List.getElem_cons_zero, List.getElem_cons_succ, Act.put, List.setIfInBounds_toArray, List.set_cons_zero, List.set_cons_succ]
  refine wpAnyK_oneL (i := 4) rfl (by kernel_rfl) (fun K hK => ?_)
  go_simp
  go_at_call 36
  refine (zero_c m ((n : Int) - 1) n _ (by omega) (by omega)).mono ?_
  rintro e wd2 ⟨vz, rfl, hod2, hbd2⟩
  obtain ⟨oz, cz, rfl⟩ := hod2.shapeN (n := n) (by simp)
  have hd2 : Below w6.heap.size w6 wd2 := (by (repeat (first | exact bR _ _ | (refine bS ?_ _) | (refine bA ?_ _) | (refine bN ?_ _) | (refine bD ?_) | (refine bT ?_ hbd1) | (refine bT ?_ hbd2))))
  have hsd2 := hd2.size
  have hsz2_ := hbd2.size
  (try simp at hsz2_)
  obtain ⟨f2_a, f2_b⟩ := ((F6).below hd2 (Nat.le_refl _))
  go_wp2_with fail
  clear hHeld
  have hHeld : (fun w' : World => w'.cell? ⟨b, 0, none⟩ = some (.int .i64 m) ∧ w'.cell? ⟨b, 1, none⟩ = some (.slice ot n ct)) wd2 := by go_keep
  refine hK.out _ _ (fun _ => hHeld) ?_
  clear hK K
  try simp only [List.getElem_toArray, List.getElem_cons_zero, List.getElem_cons_succ, Act.put, List.setIfInBounds_toArray, List.set_cons_zero, List.set_cons_succ]
  refine wpAnyK_oneL (i := 6) rfl (by kernel_rfl) (fun K hK => ?_)
  go_simp
  obtain ⟨g, rfl, hgl, hgl'⟩ := hod2.row (by omega)
  have hg6 : b + 6 ≤ g := by omega
  have hi6 : InvH m b g w (.slice ot n ct) (.slice os n cs) [] (some (b + 4)) wd2 := ⟨fun k hk => (hd2.block k (by omega)).trans (hS6.bel.block k (by omega)), hS6.F.below hd2 (Nat.le_refl _), hS6.G.below hd2 (Nat.le_refl _), hS6.one.below hd2 (Nat.le_refl _), hS6.fin.below hd2 (Nat.le_refl _), _, rfl, hS6.out.below hd2 (Nat.le_refl _), fun k => (World.frozen?_of_block (hd2.block (b + 5) (by omega))).trans (hS6.fz k), (hS6.own _ (by omega)).stay (fun k _ hk _ => hd2.block k hk) (fun _ _ _ h => h), fun j hj => by obtain rfl : b + 4 = j := (by simpa [Value.ownBlock] using hj); omega⟩
  refine (homsWalk m _ n b g cz w wd2 _ _ t s rfl hb hg6 hgl' hm hm' h2n hn HT.out HS.out hv hu hM hi6 hod2.raise).mono ?_
  rintro e w9 ⟨rfl, o9, hi9, hc9⟩
  obtain ⟨vs, e6, e7, e8, e9, e10⟩ := hi9.out
  have f9 : w9.cell? ⟨b + 1 + 1 + 1 + 1 + 1, 0, none⟩ = some vs := e7.get
  go_wp2_with fail
  refine hK.out _ _ (fun h => absurd h (by decide)) ?_
  clear hK K
  try simp only [List.getElem_toArray, List.getElem_cons_zero, List.getElem_cons_succ, Act.put, List.setIfInBounds_toArray, List.set_cons_zero, List.set_cons_succ]
  refine wpAnyK_done (by kernel_rfl) ?_ _
  go_wp2_with fail
  go_ret
  have c9 : Below w.heap.size wd2 w9 := hc9.below (fun x hx => by simp at hx; omega) (fun j hj => by cases hj; omega) (by omega)
  exact ⟨_, rfl, (e9.weak (fun _ h => h.elim)).mono (by omega), ((hS6.bel.trans (hd2.mono (by omega))).mono (by omega)).trans c9⟩
end Go.Proofs.Ytfpphfjlpgefaaa
set_option linter.unusedSimpArgs false
set_option linter.unusedVariables false
namespace Go.Proofs.Ytfpphfjlpgefaaa
open Go.RowKit

def cntAt (m most : Int) : Nat → Int → Int
  | 0, a => a
  | k + 1, a => if most / m < a then most + 1 else cntAt m most k (a * m)
theorem cnt_large {m most : Int} (hm : 1 ≤ m) : ∀ (k : Nat) (a : Int), 0 ≤ a → a ≤ most → (decide (most < cntAt m most k a)) = (match k with | 0 => false | _ => decide (most < a * m ^ k))
  | 0, a, h0, h1 => decide_eq_false (show ¬ most < a by omega)
  | k + 1, a, h0, h1 => by
    have hq : most / m < a ↔ most < a * m := Int.ediv_lt_iff_lt_mul (by omega)
    have hp : (1 : Int) ≤ m ^ k := pow_pos' hm k
    unfold cntAt
    by_cases h : most / m < a
    · rw [if_pos h]
      have h2 := hq.1 h
      have h3 : a * m ≤ a * m ^ (k + 1) := by
        rw [Int.pow_succ, Int.mul_comm (m ^ k), ← Int.mul_assoc]
        have := Int.mul_le_mul_of_nonneg_left hp (show 0 ≤ a * m by omega)
        rwa [Int.mul_one] at this
      simp; omega
    · rw [if_neg h]
      have h2 : a * m ≤ most := by
        have := mt hq.2 h; omega
      have h4 : 0 ≤ a * m := Int.mul_nonneg h0 (by omega)
      rw [cnt_large hm k (a * m) h4 h2]
      have e : a * m * m ^ k = a * m ^ (k + 1) := by rw [Int.pow_succ, Int.mul_comm (m ^ k), ← Int.mul_assoc]
      cases k with
      | zero =>
        have e1 : a * m ^ (0 + 1) = a * m := by rw [Int.pow_succ, Int.pow_zero, Int.one_mul]
        simp only [e1]
        simp; omega
      | succ k => simp only [e]
theorem large_pow {m : Int} (hm : 1 ≤ m) : ∀ (k : Nat) (a : Int), 0 ≤ a → a ≤ 20000 → largeB m k a = (match k with | 0 => false | _ => decide (20000 < a * m ^ k))
  | 0, a, h0, h1 => rfl
  | k + 1, a, h0, h1 => by
    have hp : (1 : Int) ≤ m ^ k := pow_pos' hm k
    have e : a * m * m ^ k = a * m ^ (k + 1) := by rw [Int.pow_succ, Int.mul_comm (m ^ k), ← Int.mul_assoc]
    unfold largeB
    by_cases h : 20000 < a * m
    · rw [if_pos h]
      have h3 : a * m ≤ a * m ^ (k + 1) := by
        rw [← e]
        have := Int.mul_le_mul_of_nonneg_left hp (show 0 ≤ a * m by omega)
        rwa [Int.mul_one] at this
      simp; omega
    · rw [if_neg h]
      have h4 : 0 ≤ a * m := Int.mul_nonneg h0 (by omega)
      rw [large_pow hm k (a * m) h4 (by omega)]
      cases k with
      | zero =>
        have e1 : a * m ^ (0 + 1) = a * m := by rw [Int.pow_succ, Int.pow_zero, Int.one_mul]
        simp only [e1]
        simp; omega
      | succ k => simp only [e]
theorem cnt_is_large {m : Int} (hm : 1 ≤ m) (k : Nat) : decide (20000 < cntAt m 20000 k 1) = largeB m k 1 := by
  rw [cnt_large hm k 1 (by omega) (by omega), large_pow hm k 1 (by omega) (by omega)]

set_option maxHeartbeats 400000 in
set_option maxRecDepth 100000 in
theorem countAtMost_c (m d most : Int) (k : Nat) (w : World) (hd : d = (k : Int)) (hk : k ≤ 1000) (hm : 2 ≤ m) (hm' : m ≤ 10000) (h0 : 1 ≤ most) (h1 : most ≤ 1000000000000000000) :
    Calls Try.prog 34 #[.int .i64 m, .int .i64 d, .int .i64 most] w fun e w' => e = .returned (.int .i64 (cntAt m most k 1)) ∧ w = w' := by
  subst hd
  have m0 : (m == 0) = false := by simp; omega
  have m1 : ¬ m = 0 := by omega
  have hq0 : most.tdiv m = most / m := Int.tdiv_eq_ediv_of_nonneg (by omega)
  have hq1 : 0 ≤ most / m := Int.ediv_nonneg (by omega) (by omega)
  have hq2 : most / m ≤ most := Int.ediv_le_self _ (by omega)
  have hq3 := IntWalk.i64_in (most / m) (by omega)
  have hq4 : IntKind.i64.wrap (most + 1) = most + 1 := IntWalk.i64_in _ (by omega)
  go_enter Try.func34, Try.ntmps34
  go_wp2
  go_loop [7, 9] (fun a i => ∃ (j : Nat) (x : Int), j ≤ k ∧ i = .int .i64 j ∧ a = .int .i64 x ∧ 0 ≤ x ∧ x ≤ most ∧ cntAt m most (k - j) x = cntAt m most k 1) (fun _ i => k - (intOf i).toNat)
  case atStart => exact ⟨0, 1, Nat.zero_le _, rfl, rfl, by omega, by omega, rfl⟩
  case round =>
    obtain ⟨j, x, hj, rfl, rfl, hx0, hx1, hR⟩ := hrel
    by_cases hlt : j < k
    · have i0 : (j : Int) < (k : Int) := by omega
      rw [show k - j = (k - (j + 1)) + 1 by omega] at hR
      have hq : most / m < x ↔ most < x * m := Int.ediv_lt_iff_lt_mul (by omega)
      by_cases hl : most / m < x
      · have HR := Lib.hid (show cntAt m most k 1 = most + 1 by rw [← hR]; unfold cntAt; rw [if_pos hl])
        clear hR
        go_wp2
        go_ret
        exact ⟨by rw [HR.out]; rfl, rfl⟩
      · have hxm : x * m ≤ most := by have := mt hq.2 hl; omega
        have hxm0 : 0 ≤ x * m := Int.mul_nonneg hx0 (by omega)
        have HR := Lib.hid (show cntAt m most (k - (j + 1)) (x * m) = cntAt m most k 1 by rw [← hR]; conv => rhs; unfold cntAt; rw [if_neg hl])
        have e1 : IntKind.i64.wrap (x * m) = x * m := IntWalk.i64_in _ (by omega)
        clear hR
        go_wp2
        exact ⟨⟨j + 1, x * m, by omega, by go_num, rfl, hxm0, hxm, HR.out⟩, by simp [intOf]; omega⟩
    · obtain rfl : j = k := by omega
      have HR := Lib.hid (show cntAt m most j 1 = x by rw [← hR, Nat.sub_self]; rfl)
      clear hR
      go_wp2
      go_ret
      exact ⟨by rw [HR.out]; rfl, rfl⟩

def schC (m : Int) (t : List (List Int)) (m1 : Int) (s : List (List Int)) (k : Nat) : Int := if twoL m t m1 s = 0 then (if largeB m k 1 then 3 else 0) else twoL m t m1 s
set_option maxHeartbeats 400000 in
set_option maxRecDepth 100000 in
theorem searchable_c (m : Int) (v : Value) (t : List (List Int)) (m1 : Int) (u : Value) (s : List (List Int)) (d : Int) (k : Nat) (w : World) (hv : RdT w v t) (hu : RdT w u s) (hd : twoL m t m1 s = 0 → d = (k : Int) ∧ k ≤ 1000) :
    Calls Try.prog 17 #[.agg #[.int .i64 m, v], .agg #[.int .i64 m1, u], .int .i64 d] w fun e w' => e = .returned (.int .i64 (schC m t m1 s k)) ∧ Below w.heap.size w w' := by
  obtain ⟨o, c, rfl, -, -⟩ := id hv
  obtain ⟨o1, c1, rfl, -, -⟩ := id hu
  have HR := Lib.hid (show schC m t m1 s k = if twoL m t m1 s = 0 then (if largeB m k 1 then 3 else 0) else twoL m t m1 s from rfl)
  by_cases hc : twoL m t m1 s = 0
  · obtain ⟨a1, a2, e1, l1⟩ := twoL_0 hc
    obtain ⟨rfl, hk⟩ := hd hc
    have hm := pla_m (lawB_t a1).1
    have HC := Lib.hid hc
    have HL := Lib.hid (cnt_is_large (m := m) (by omega) k)
    have hcc : ((0 : Int) != 0) = false := by simp
    rw [if_pos hc] at HR
    clear hc a1 a2 e1 l1
    go_enter Try.func17, Try.ntmps17
    go_wp2_with fail
    (have X0 := ((RB2.mk1 w  (.int .i64 m) (.slice o t.length c) 29).1).below (w' := ((w.alloc (.cells #[.int .i64 m, .slice o t.length c] 29)).alloc (.cells #[.int .i64 m1, .slice o1 s.length c1] 29))) (by (repeat (first | exact bR _ _ | (refine bS ?_ _) | (refine bA ?_ _) | (refine bN ?_ _) | (refine bD ?_)))) (Nat.le_refl _); have Y0 := ((RB2.mk2 w (.cells #[.int .i64 m, .slice o t.length c] 29) (.int .i64 m1) (.slice o1 s.length c1) 29).1).below (w' := ((w.alloc (.cells #[.int .i64 m, .slice o t.length c] 29)).alloc (.cells #[.int .i64 m1, .slice o1 s.length c1] 29))) (by (repeat (first | exact bR _ _ | (refine bS ?_ _) | (refine bA ?_ _) | (refine bN ?_ _) | (refine bD ?_)))) (Nat.le_refl _); have B0 : Below w.heap.size w ((w.alloc (.cells #[.int .i64 m, .slice o t.length c] 29)).alloc (.cells #[.int .i64 m1, .slice o1 s.length c1] 29)) := (by (repeat (first | exact bR _ _ | (refine bS ?_ _) | (refine bA ?_ _) | (refine bN ?_ _) | (refine bD ?_)))); have hv0 := hv.below (w' := ((w.alloc (.cells #[.int .i64 m, .slice o t.length c] 29)).alloc (.cells #[.int .i64 m1, .slice o1 s.length c1] 29))) (by (repeat (first | exact bR _ _ | (refine bS ?_ _) | (refine bA ?_ _) | (refine bN ?_ _) | (refine bD ?_)))) (Nat.le_refl _); have hu0 := hu.below (w' := ((w.alloc (.cells #[.int .i64 m, .slice o t.length c] 29)).alloc (.cells #[.int .i64 m1, .slice o1 s.length c1] 29))) (by (repeat (first | exact bR _ _ | (refine bS ?_ _) | (refine bA ?_ _) | (refine bN ?_ _) | (refine bD ?_)))) (Nat.le_refl _); generalize (w.alloc (.cells #[.int .i64 m, .slice o t.length c] 29)).alloc (.cells #[.int .i64 m1, .slice o1 s.length c1] 29) = w0 at X0 Y0 B0 hv0 hu0 ⊢)
    (obtain ⟨gqX0, gqX1⟩ := id X0; obtain ⟨gqY0, gqY1⟩ := id Y0; go_wp2_with fail; refine (bothLaws_c m m1 _ _ t s _ hv0 hu0).mono ?_; rw [HC.out]; rintro e w1 ⟨rfl, hb⟩; (have X1 := X0.below hb (Nat.le_refl _); have Y1 := Y0.below hb (Nat.le_refl _); have B1 := B0.trans (hb.mono B0.size)); clear gqX0 gqX1 gqY0 gqY1; clear hb)
    obtain ⟨x0, x1⟩ := id X1
    cases hlb : largeB m k 1
    · rw [hlb] at HR HL
      have hq : ¬ 20000 < cntAt m 20000 k 1 := by simpa using HL.out
      go_wp2_with (go_at_call 34; refine (countAtMost_c m _ 20000 k _ rfl hk (by omega) (by omega) (by omega) (by omega)).mono ?_; rintro e w' ⟨rfl, rfl⟩)
      go_ret
      exact ⟨by rw [HR.out]; rfl, B1⟩
    · rw [hlb] at HR HL
      have hq : 20000 < cntAt m 20000 k 1 := by simpa using HL.out
      go_wp2_with (go_at_call 34; refine (countAtMost_c m _ 20000 k _ rfl hk (by omega) (by omega) (by omega) (by omega)).mono ?_; rintro e w' ⟨rfl, rfl⟩)
      go_ret
      exact ⟨by rw [HR.out]; rfl, B1⟩
  · rw [if_neg hc] at HR
    obtain ⟨cc, hcc0⟩ : ∃ cc, twoL m t m1 s = cc := ⟨_, rfl⟩
    rw [hcc0] at hc HR
    have HC := Lib.hid hcc0
    clear hcc0
    have hcc : (cc != 0) = true := by simpa using hc
    clear hc
    go_enter Try.func17, Try.ntmps17
    go_wp2_with fail
    (have X0 := ((RB2.mk1 w  (.int .i64 m) (.slice o t.length c) 29).1).below (w' := ((w.alloc (.cells #[.int .i64 m, .slice o t.length c] 29)).alloc (.cells #[.int .i64 m1, .slice o1 s.length c1] 29))) (by (repeat (first | exact bR _ _ | (refine bS ?_ _) | (refine bA ?_ _) | (refine bN ?_ _) | (refine bD ?_)))) (Nat.le_refl _); have Y0 := ((RB2.mk2 w (.cells #[.int .i64 m, .slice o t.length c] 29) (.int .i64 m1) (.slice o1 s.length c1) 29).1).below (w' := ((w.alloc (.cells #[.int .i64 m, .slice o t.length c] 29)).alloc (.cells #[.int .i64 m1, .slice o1 s.length c1] 29))) (by (repeat (first | exact bR _ _ | (refine bS ?_ _) | (refine bA ?_ _) | (refine bN ?_ _) | (refine bD ?_)))) (Nat.le_refl _); have B0 : Below w.heap.size w ((w.alloc (.cells #[.int .i64 m, .slice o t.length c] 29)).alloc (.cells #[.int .i64 m1, .slice o1 s.length c1] 29)) := (by (repeat (first | exact bR _ _ | (refine bS ?_ _) | (refine bA ?_ _) | (refine bN ?_ _) | (refine bD ?_)))); have hv0 := hv.below (w' := ((w.alloc (.cells #[.int .i64 m, .slice o t.length c] 29)).alloc (.cells #[.int .i64 m1, .slice o1 s.length c1] 29))) (by (repeat (first | exact bR _ _ | (refine bS ?_ _) | (refine bA ?_ _) | (refine bN ?_ _) | (refine bD ?_)))) (Nat.le_refl _); have hu0 := hu.below (w' := ((w.alloc (.cells #[.int .i64 m, .slice o t.length c] 29)).alloc (.cells #[.int .i64 m1, .slice o1 s.length c1] 29))) (by (repeat (first | exact bR _ _ | (refine bS ?_ _) | (refine bA ?_ _) | (refine bN ?_ _) | (refine bD ?_)))) (Nat.le_refl _); generalize (w.alloc (.cells #[.int .i64 m, .slice o t.length c] 29)).alloc (.cells #[.int .i64 m1, .slice o1 s.length c1] 29) = w0 at X0 Y0 B0 hv0 hu0 ⊢)
    (obtain ⟨gqX0, gqX1⟩ := id X0; obtain ⟨gqY0, gqY1⟩ := id Y0; go_wp2_with fail; refine (bothLaws_c m m1 _ _ t s _ hv0 hu0).mono ?_; rw [HC.out]; rintro e w1 ⟨rfl, hb⟩; (have X1 := X0.below hb (Nat.le_refl _); have Y1 := Y0.below hb (Nat.le_refl _); have B1 := B0.trans (hb.mono B0.size)); clear gqX0 gqX1 gqY0 gqY1; clear hb)
    go_wp2
    go_ret
    exact ⟨by rw [HR.out]; rfl, B1⟩

end Go.Proofs.Ytfpphfjlpgefaaa
