/- Lemmas. -/
import Derived.Test.YtfpphfjlpgefaaaGreatqM1
import Derived.Test.YtfpphfjlpgefaaaGreatqG1
import Derived.Deep.RegionHeld3
import Derived.Deep.AppendLies
set_option maxHeartbeats 400000
set_option maxRecDepth 100000
set_option linter.unusedSimpArgs false
set_option linter.unusedVariables false
namespace Go.Proofs.YtfpphfjlpgefaaaGreat
open Go.RowKit

def SB (w : World) (b : Nat) (m : Int) (v : Value) (xs : Li) : Prop := Box2 w b (.int .i64 m) v ∧ RdI w v xs
theorem SB.below {w w' : World} {b : Nat} {m : Int} {v : Value} {xs : Li} (h : SB w b m v xs) (hb : Below w.heap.size w w') : SB w' b m v xs := ⟨h.1.below hb, h.2.below hb⟩
theorem SB.lt {w : World} {b : Nat} {m : Int} {v : Value} {xs : Li} (h : SB w b m v xs) : b < w.heap.size := h.1.lt
theorem SB.mk1 (w : World) (m : Int) (v : Value) (xs : Li) (h : RdI w v xs) (t : TypeId) : SB (w.alloc (.cells #[.int .i64 m, v] t)) w.heap.size m v xs := ⟨Box2.mk' w _ _ t, h.below (B := w.heap.size) ((Below.refl _ _).alloc (nl _) _) (nl _)⟩
def PB (w : World) (b : Nat) (m : Int) (v : Value) (xs : Tb) : Prop := Box2 w b (.int .i64 m) v ∧ RdT w v xs
theorem PB.below {w w' : World} {b : Nat} {m : Int} {v : Value} {xs : Tb} (h : PB w b m v xs) (hb : Below w.heap.size w w') : PB w' b m v xs := ⟨h.1.below hb, h.2.below hb⟩
theorem PB.lt {w : World} {b : Nat} {m : Int} {v : Value} {xs : Tb} (h : PB w b m v xs) : b < w.heap.size := h.1.lt
theorem PB.mk1 (w : World) (m : Int) (v : Value) (xs : Tb) (h : RdT w v xs) (t : TypeId) : PB (w.alloc (.cells #[.int .i64 m, v] t)) w.heap.size m v xs := ⟨Box2.mk' w _ _ t, h.below (B := w.heap.size) ((Below.refl _ _).alloc (nl _) _) (nl _)⟩

theorem qPt (m : Int) (v u : Value) (xs : Li) (w : World) (hv : RdI w v xs) (hu : RdI w u xs) :
  Calls Tryz.prog 26 #[.agg #[.int .i64 m, v], .agg #[.int .i64 m, u]] w fun e w' => e = .returned (.bool true) ∧ Below w.heap.size w w' := by
 go_enter Tryz.func26, Tryz.ntmps26
 go_wp2_with fail
 have hb : Below w.heap.size w ((w.alloc (.cells #[.int .i64 m, v] 34)).alloc (.cells #[.int .i64 m, u] 34)) := bZ
 refine (qEo _ _ xs xs _ (hv.below hb) (hu.below hb)).mono ?_
 rintro e w1 ⟨rfl, d, rfl⟩
 go_wp2
 go_ret
 exact ⟨by simp [qEd], below_drewN hb d⟩

def DW (B n b : Nat) (w0 w : World) : Prop := b < w0.heap.size ∧ Src w B n b ∧ Chg b (b + 1) w0 w
theorem DW.src {B n b : Nat} {w0 w : World} (h : DW B n b w0 w) : Src w B n b := h.2.1
theorem DW.chg {B n b : Nat} {w0 w : World} (h : DW B n b w0 w) : Chg b (b + 1) w0 w := h.2.2
theorem DW.lt {B n b : Nat} {w0 w : World} (h : DW B n b w0 w) : b < w0.heap.size := h.1
theorem DW.size {B n b : Nat} {w0 w : World} (h : DW B n b w0 w) : w0.heap.size ≤ w.heap.size := h.2.2.size
theorem DW.le {B n b : Nat} {w0 w : World} (h : DW B n b w0 w) : B ≤ b := h.2.1.1
theorem DW.refl {B n b : Nat} {w : World} (h : Src w B n b) : DW B n b w w := ⟨h.lt, h, Chg.refl _ _ _⟩
theorem DW.mk' {B n b : Nat} {w w' : World} (hl : b < w.heap.size) (h : Src w' B n b) (hc : Chg b (b + 1) w w') : DW B n b w w' := ⟨hl, h, hc⟩
theorem DW.trans {B n b : Nat} {w0 w1 w2 : World} (h : DW B n b w0 w1) (k : DW B n b w1 w2) : DW B n b w0 w2 := ⟨h.1, k.2.1, h.2.2.trans k.2.2⟩
theorem DW.below {B n b : Nat} {w0 w1 w2 : World} (h : DW B n b w0 w1) (hb : Below w1.heap.size w1 w2) : DW B n b w0 w2 :=
 ⟨h.1, h.src.below hb (by have := h.size; have := h.lt; have := h.le; omega), h.2.2.trans (Chg.of_below hb)⟩
theorem DW.alloc {B n b : Nat} {w0 w1 : World} (h : DW B n b w0 w1) (o : Obj) : DW B n b w0 (w1.alloc o) := h.below ((Below.refl _ _).alloc (nl _) _)
theorem DW.drewN {B n b : Nat} {w0 w1 : World} (h : DW B n b w0 w1) (k : Nat) : DW B n b w0 (w1.drewN k) := h.below (below_drewN (Below.refl _ _) _)
theorem DW.drew {B n b : Nat} {w0 w1 : World} (h : DW B n b w0 w1) : DW B n b w0 w1.drew := h.below (Below.drew (Below.refl _ _))
theorem Src.grown {w w' : World} {B n b : Nat} {row : Option Nat} (h : Src w B n b) (hg : w.grownBy w' row) (hr : ∀ k, row = some k → b < k) : Src w' B n b := by
 have hl := h.lt
 obtain ⟨h1, v, i, k, hv, hr', hi⟩ := h
 refine ⟨h1, v, i, k, hv.keep fun j hj => hg.block j Oo (fun e => by have := hr j e.symm; omega), ?_, hi⟩
 have e : w'.heap[b]? = w.heap[b]? := hg.block b hl (fun e => by have := hr b e.symm; omega)
 obtain ⟨⟨c0, c1, c2⟩, cf⟩ := hr'
 exact ⟨⟨(World.cell?_of_block (w := w) (a := ⟨b, 0, none⟩) e).trans c0, (World.cell?_of_block (w := w) (a := ⟨b, 1, none⟩) e).trans c1, (World.cell?_of_block (w := w) (a := ⟨b, 2, none⟩) e).trans c2⟩, fun k => (World.frozen?_of_block (w := w) (a := ⟨b, k, none⟩) e).trans (cf k)⟩
theorem DW.grown {B n b : Nat} {w0 w1 w2 : World} {row : Option Nat} (h : DW B n b w0 w1) (hg : w1.grownBy w2 row) (hr : ∀ k, row = some k → w0.heap.size ≤ k) : DW B n b w0 w2 := by
 have hl := h.lt
 have hz := h.size
 refine ⟨h.1, h.src.grown hg (fun k hk => by have := hr k hk; omega), ⟨hg.os.trans h.chg.os, hg.tape.trans h.chg.tape, hg.output.trans h.chg.output, Nat.le_trans hz hg.size, fun k hk hx => ?_⟩⟩
 rw [hg.block k Oo (fun e => by have := hr k e.symm; omega)]
 exact h.chg.block k hk hx
theorem DW.put {B n b : Nat} {w0 w1 : World} (h : DW B n b w0 w1) {g : Nat} (hg : w0.heap.size ≤ g) (k : Nat) (v : Value) : DW B n b w0 (w1.setCell ⟨g, k, none⟩ v) :=
 h.grown (qBx w1 g k v) (fun j hj => by cases hj; exact hg)

theorem qIG {lo hi : Nat} {w w' : World} (hc : Chg lo hi w w') {c : Nat} (hl : c < w.heap.size) (hd : c < lo ∨ hi ≤ c) (k : Nat) : w'.cell? ⟨c, k, none⟩ = w.cell? ⟨c, k, none⟩ := World.cell?_of_block (w := w) (a := ⟨c, k, none⟩) (hc.block c hl hd)
theorem qOW {lo hi : Nat} {w w' : World} (hc : Chg lo hi w w') {c : Nat} (hl : c < w.heap.size) (hd : c < lo ∨ hi ≤ c) (k : Nat) : w'.frozen? ⟨c, k, none⟩ = w.frozen? ⟨c, k, none⟩ := World.frozen?_of_block (w := w) (a := ⟨c, k, none⟩) (hc.block c hl hd)
theorem Box3.chg {lo hi : Nat} {w w' : World} {c : Nat} {x y z : Value} (h : Box3 w c x y z) (hc : Chg lo hi w w') (hd : c < lo ∨ hi ≤ c) : Box3 w' c x y z :=
 ⟨(qIG hc h.lt hd 0).trans h.1, (qIG hc h.lt hd 1).trans h.2.1, (qIG hc h.lt hd 2).trans h.2.2⟩
theorem RB3.chg {lo hi : Nat} {w w' : World} {c : Nat} {x y z : Value} (h : RB3 w c x y z) (hc : Chg lo hi w w') (hd : c < lo ∨ hi ≤ c) : RB3 w' c x y z :=
 ⟨h.1.chg hc hd, fun k => (qOW hc h.1.lt hd k).trans (h.2 k)⟩
theorem OwI.chg {lo hi : Nat} {w w' : World} {B : Nat} {v : Value} {xs : Li} (h : OwI w B v xs) (hc : Chg lo hi w w') (hd : hi ≤ B) : OwI w' B v xs := by
 have hl := h.lt
 obtain ⟨h1, h2⟩ := h
 refine ⟨h1, ?_⟩
 rcases h2 with h2 | ⟨g, cap, cur, hv, hg, hh, r⟩
 ·exact .inl h2
 ·have hlt := hl g (by rw [hv]; rfl); exact .inr ⟨g, cap, cur, hv, hg, by rw [hc.block g hlt.2 (.inr Oo)]; exact hh, r⟩
theorem RB3.dw {B n b : Nat} {w w' : World} {c : Nat} {x y z : Value} (h : RB3 w c x y z) (hd : DW B n b w w') (hne : b < c) : RB3 w' c x y z := h.chg hd.chg (.inr hne)
theorem RB2.dw {B n b : Nat} {w w' : World} {c : Nat} {x y : Value} (h : RB2 w c x y) (hd : DW B n b w w') (hne : b < c) : RB2 w' c x y := h.chg hd.chg (.inr hne)
theorem OwI.dw {B n b : Nat} {w w' : World} {C : Nat} {v : Value} {xs : Li} (h : OwI w C v xs) (hd : DW B n b w w') (hne : b < C) : OwI w' C v xs := h.chg hd.chg hne
theorem RB3.off {w : World} {b : Nat} {x y z : Value} (h : RB3 w b x y z) {g k : Nat} (ha : g ≠ b) (u : Value) : RB3 (w.setCell ⟨g, k, none⟩ u) b x y z :=
 h.grown (qBx w g k u) (fun e => ha (by cases e; rfl))
theorem RB2.off {w : World} {b : Nat} {x y : Value} (h : RB2 w b x y) {g k : Nat} (ha : g ≠ b) (u : Value) : RB2 (w.setCell ⟨g, k, none⟩ u) b x y :=
 h.grown (qBx w g k u) (fun e => ha (by cases e; rfl))
theorem DW.out {B n b : Nat} {W w0 w : World} (h : DW B n b w0 w) (hb : Below W.heap.size W w0) (hB : W.heap.size ≤ b) : Below W.heap.size W w := Chg.below hb h.chg hB (by have := h.lt; omega)

def NEnd (w w' : World) (B n b : Nat) (e : Ending) : Prop := ∃ r, e = .returned (.int .i64 r) ∧ DW B n b w w'

theorem qAz (B n b : Nat) (m : Int) (w : World) (hs : Src w B n b) :
  Calls Tryz.prog 38 #[.pointer (some ⟨b, 0, none⟩), .int .i64 m] w fun e w' => ∃ r, e = .returned (.int .i64 r) ∧ 0 ≤ r ∧ (0 < m → r < m) ∧ (m < 1 → r = 0) ∧ DW B n b w w' ∧ w'.heap.size = w.heap.size :=
 (qJg B n b m w hs).mono fun _ _ ⟨r, he, h0, h1, h2, h3, h4, h5⟩ => ⟨r, he, h0, h1, h2, ⟨hs.lt, h3, h4⟩, h5⟩

theorem qLC {w w' : World} (xs : Li) (C : Array Value) (t : TypeId) (hC : C = (xs.map (Value.int .i64)).toArray) (hl : xs.length ≤ 1000) (hk : w'.heap[w.heap.size]? = (w.alloc (.cells C t)).heap[w.heap.size]?) :
  RdI w' (.slice (some ⟨w.heap.size, 0, none⟩) xs.length xs.length) xs := by
 refine ⟨_, _, rfl, ⟨by unfold maxLen; omega, Nat.le_refl _, fun h => by cases h⟩, fun k x hx => ⟨w.heap.size, 0, rfl, ?_⟩⟩
 refine (World.cell?_of_block (w := w.alloc (.cells C t)) (a := ⟨w.heap.size, 0 + k, none⟩) hk).trans ?_
 subst hC
 simp [hx]
theorem qCw (B n b g k : Nat) (xs : Li) (C : Array Value) (w : World) (hs : Src w B n b) (hg : g = w.heap.size) (hk : k = xs.length) (hC : C = (xs.map (Value.int .i64)).toArray) (h1 : 1 ≤ xs.length) (hl : xs.length ≤ 1000) :
  Calls Tryz.prog 74 #[.pointer (some ⟨b, 0, none⟩), .slice (some ⟨g, 0, none⟩) k k] (w.alloc (.cells C 2)) fun e w' => ∃ r, e = .returned (.int .i64 r) ∧ r ∈ xs ∧ DW B n b w w' ∧ w'.heap.size = w.heap.size + 1 := by
 subst hg hk
 have hb : Below w.heap.size w (w.alloc (.cells C 2)) := bZ
 have hlt := hs.lt
 have hB := hs.1
 refine (qMZ B n b _ xs _ (hs.below hb Oo) (qLC xs C _ hC hl rfl) h1 (fun w' hc => qLC xs C _ hC hl (hc.block _ (by simp) (.inr Oo)))).mono ?_
 rintro e w' ⟨r, rfl, hr, hs', hc', hz⟩
 exact ⟨r, rfl, hr, ⟨hlt, hs', (Chg.of_below hb).trans hc'⟩, by simp at hz; exact hz⟩

theorem qOn (B n b : Nat) (w : World) (hs : Src w B n b) :
  Calls Tryz.prog 203 #[.pointer (some ⟨b, 0, none⟩)] w fun e w' => NEnd w w' B n b e := by
 go_enter Tryz.func203, Tryz.ntmps203
 go_wp2_with fail
 refine (qAz B n b _ w hs).mono ?_
 rintro e w1 ⟨r, rfl, r0, r1, r2, hd1, hz1⟩
 have r1 := r1 Oo
 go_wp2_with fail
 refine (qAz B n b _ w1 hd1.src).mono ?_
 rintro e w2 ⟨q, rfl, q0, q1, q2, hd2, hz2⟩
 have q1 := q1 Oo
 go_wp2_with fail
 refine (qCw B n b _ _ [2, 3, 4, 5, 6, 7, 8, 9, 10, 12, 16, 25, 27, 30, 49, 101, 210, 2 + r, 2 + q, 10000] _ w2 hd2.src Oo rfl rfl (by simp) (by simp)).mono ?_
 rintro e w3 ⟨t, rfl, _, hd3, hz3⟩
 go_wp2
 go_ret
 exact ⟨_, rfl, hd1.trans (hd2.trans hd3)⟩
theorem qO1 (B n b : Nat) (m : Int) (w : World) (hs : Src w B n b) :
  Calls Tryz.prog 186 #[.pointer (some ⟨b, 0, none⟩), .int .i64 m] w fun e w' => NEnd w w' B n b e := by
 go_enter Tryz.func186, Tryz.ntmps186
 go_wp2_with fail
 refine (qAz B n b _ w hs).mono ?_
 rintro e w1 ⟨r, rfl, r0, r1, r2, hd1, hz1⟩
 by_cases hr : r = 0
 ·subst hr
  go_wp2_with fail
  refine (qCw B n b _ _ [-1, m, 1099511627776, -4611686018427387904] _ w1 hd1.src Oo rfl rfl (by simp) (by simp)).mono ?_; rintro e w3 ⟨t, rfl, _, hd3, hz3⟩; go_wp2; go_ret; exact ⟨_, rfl, hd1.trans hd3⟩
 ·have hr1 : ¬ r = 0 := hr
  go_wp2_with fail
  refine (qAz B n b _ w1 hd1.src).mono ?_; rintro e w2 ⟨q, rfl, q0, q1, q2, hd2, hz2⟩; go_wp2; go_ret; exact ⟨_, rfl, hd1.trans hd2⟩
end Go.Proofs.YtfpphfjlpgefaaaGreat
