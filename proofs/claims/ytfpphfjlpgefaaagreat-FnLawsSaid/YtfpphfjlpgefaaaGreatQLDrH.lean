/- Lemmas. -/
import Derived.Test.YtfpphfjlpgefaaaGreatQLM22
import Derived.Test.YtfpphfjlpgefaaaGreatQLLsO
import Derived.Test.YtfpphfjlpgefaaaGreatQLM7
set_option maxHeartbeats 4000000
set_option maxRecDepth 100000
set_option linter.unusedSimpArgs false
set_option linter.unusedVariables false
namespace Go.Proofs.YtfpphfjlpgefaaaGreat
open Go.RowKit

theorem SpR.read {w w' : World} {B n b : Nat} {e : Ending} (h : SpR w w' B n b e) : ∃ (m : Int) (ot : Option Addr) (q ct hi : Nat) (tt : List (List Int)), e = .returned (.agg #[.int .i64 m, .slice ot q ct]) ∧ q ≤ 11 ∧ Rds w.heap.size hi w' (fun u => RdT u (.slice ot q ct) tt) ∧ DW B n b w w' := by
 obtain ⟨m, v, N, g, c, lo, hi, k, t, rfl, hT, ⟨hlo, hg, hhi⟩, hst, ⟨hN1, hN2, hNc⟩, hvt, hd⟩ := h
 rcases hvt with rfl | ⟨hk, rfl⟩
 ·exact ⟨m, none, 0, 0, hi, [], rfl, by omega, ⟨hhi, fun u _ => ⟨none, 0, rfl, ⟨Nat.zero_le _, Nat.zero_le _, fun _ => rfl⟩, fun k row hx => by simp at hx⟩⟩, hd⟩
 ·exact ⟨m, _, _, _, hi, t.drop k, rfl, by omega, ⟨hhi, fun u hu => tailR (hT.stay (fun j h1 h2 => hu j (by omega) h2)) hst hk⟩, hd⟩
theorem OwP.rds {w : World} {B : Nat} {X : Nat → Prop} {v : Value} {ps : List (Int × List Int)} (h : OwP w B X v ps) : Rds B w.heap.size w (fun u => RdM u v ps) :=
 ⟨Nat.le_refl _, fun u hu => (h.stay (fun k h1 h2 _ => hu k h1 h2) (fun _ _ _ h => h)).rd⟩
theorem RB2.put0 {w : World} {b : Nat} {x y : Value} (h : RB2 w b x y) (u : Value) : RB2 (w.setCell ⟨b, 0, none⟩ u) b u y := by
 obtain ⟨⟨h0, h1⟩, hf⟩ := h
 exact ⟨⟨World.cell?_setCell_same _ _ _ h0, (World.cell?_setCell_other w ⟨b, 0, none⟩ ⟨b, 1, none⟩ u (by simp)).trans h1⟩, fun k => by rw [World.frozen?_setCell]; exact hf k⟩
theorem OwP.dw {w w' : World} {B' B n b : Nat} {X : Nat → Prop} {v : Value} {ps : List (Int × List Int)} (h : OwP w B' X v ps) (hd : DW B n b w w') (hb : b < B') : OwP w' B' X v ps :=
 h.stay (fun k h1 h2 _ => hd.chg.block k h2 (.inr (by omega))) (fun _ _ _ h => h)
theorem OwP.put {w : World} {B T p : Nat} {v : Value} {ps : List (Int × List Int)} (h : OwP w B (fun b => b = p ∨ T ≤ b) v ps) {g : Nat} (hg : T ≤ g) (k : Nat) (x : Value) : OwP (w.setCell ⟨g, k, none⟩ x) B (fun b => b = p ∨ T ≤ b) v ps :=
 h.stay (fun j _ _ hX => heap_setCell_other w ⟨g, k, none⟩ j x (fun e => by simp at e; exact hX (.inr (by omega)))) (fun _ _ _ h => h)
theorem OwP.putB {w : World} {B : Nat} {X : Nat → Prop} {v : Value} {ps : List (Int × List Int)} (h : OwP w B X v ps) {g : Nat} (hg : g < B) (k : Nat) (x : Value) : OwP (w.setCell ⟨g, k, none⟩ x) B X v ps :=
 h.stay (fun j h1 _ _ => heap_setCell_other w ⟨g, k, none⟩ j x (fun e => by simp at e; omega)) (fun _ _ _ h => h)
theorem OwP.grown {w w' : World} {B T p : Nat} {v : Value} {ps : List (Int × List Int)} (h : OwP w B (fun b => b = p ∨ T ≤ b) v ps) {r : Option Nat} (hg : w.grownBy w' r) (hr : ∀ j, r = some j → T ≤ j) : OwP w' B (fun b => b = p ∨ T ≤ b) v ps :=
 h.stay (fun j _ h2 hX => hg.block j h2 (fun e => hX (.inr (hr j e.symm)))) (fun _ _ _ h => h)
def CuR (K : Nat) (w w' : World) (e : Ending) : Prop := ∃ (m : Int) (v u : Value) (tt : List (List Int)) (ps : List (Int × List Int)) (h1 : Nat), e = .returned (.tuple #[.agg #[.int .i64 m, v], u]) ∧ Rds w.heap.size h1 w' (fun x => RdT x v tt) ∧ OwP w' w.heap.size (fun _ => False) u ps ∧ ps.length = K ∧ Below w.heap.size w w'

theorem l04Curves_d (B n : Nat) (v : Value) (K : Nat) (w : World) (hv : RdB w B n v) (hB : B ≤ w.heap.size) (hK : K ≤ 10) :
  Calls Tryz.prog 43 #[v, .int .i64 K] w fun e w' => CuR K w w' e := by
 obtain ⟨ov, cv, rfl, hmv, hcv⟩ := id hv
 clear hmv hcv
 go_enter Tryz.func43, Tryz.ntmps43
 go_wp2_with fail
 have hR0 := RB2.mk1 w (.int .i64 0) (.slice none 0 0) 26
 have hb0 : Below w.heap.size w (w.alloc (.cells #[.int .i64 0, .slice none 0 0] 26)) := bZ
 generalize w.alloc (.cells #[.int .i64 0, .slice none 0 0] 26) = w0 at hR0 hb0 ⊢
 have hv0 := hv.keep (w' := w0) (fun k hk => hb0.block k (by omega))
 refine (l01From_c B n _ w0 hv0 (by have := hb0.size; omega)).mono ?_
 rintro e w1 ⟨b, rfl, hs1, hb1⟩
 have hbl := hs1.1
 have hlt := hs1.lt
 have hl0 := hR0.1.lt
 have hR1 := hR0.below hb1 (nl _)
 have hb1 := hb0.trans (hb1.mono hb0.size)
 have hw1 : w.heap.size < w1.heap.size := hR1.1.lt
 clear hR0 hb0 hv0
 go_wp2_with fail
 refine (l04Spoil_d _ n b w1 hs1).mono ?_
 intro e w2 hsp
 obtain ⟨m, ot, q, ct, hi, tt, rfl, hq, hA2, hd2⟩ := hsp.read
 clear hsp
 have hz2 := hd2.size
 have hR2 := hR1.chg hd2.chg (.inl (by omega))
 clear hR1
 go_wp2_with fail
 have hOn := OwP.nil w2 (fun b => b = w2.heap.size + 1) (by simp)
 have hX3 := RB2.mk1 (w2.alloc (.cells #[] 34)) (.int .i64 m) (.slice ot q ct) 26
 rw [show (w2.alloc (.cells #[] 34)).heap.size = w2.heap.size + 1 by simp] at hX3
 have hba : Below w2.heap.size w2 ((w2.alloc (.cells #[] 34)).alloc (.cells #[.int .i64 m, .slice ot q ct] 26)) := bZ
 have hOn := hOn.below (w' := (w2.alloc (.cells #[] 34)).alloc (.cells #[.int .i64 m, .slice ot q ct] 26)) bZ
 have hR3 := hR2.below hba (nl _)
 have hhi2 : hi ≤ w2.heap.size := hA2.1
 have hA3 := hA2.below hba
 have hd3 := hd2.below hba
 clear hR2 hA2 hd2 hba
 generalize (w2.alloc (.cells #[] 34)).alloc (.cells #[.int .i64 m, .slice ot q ct] 26) = w3 at hX3 hOn hR3 hA3 hd3 ⊢
 obtain ⟨p, hp⟩ : ∃ p, w2.heap.size + 1 = p := ⟨_, rfl⟩
 rw [hp] at hX3
 have hOn : OwP w3 w2.heap.size (fun b => b = p) (.slice (some ⟨w2.heap.size, 0, none⟩) 0 0) [] := by rw [← hp]; exact hOn
 go_wp2_with fail
 simp only [hp]
 have hp' : w2.heap.size < p := by omega
 clear hp
 go_loopw [1, 8] (fun i s wr => ∃ (k : Nat) (ps : List (Int × List Int)) (ol : Option Addr) (cl : Nat), k + ps.length = K ∧ i = .int .i64 k ∧ s = .slice ol ps.length cl ∧ OwP wr w2.heap.size (fun b => b = p) (.slice ol ps.length cl) ps ∧ RB2 wr p (.int .i64 m) (.slice ot q ct) ∧ RB2 wr w.heap.size (.int .i64 0) (.slice none 0 0) ∧ Rds w1.heap.size hi wr (fun u => RdT u (.slice ot q ct) tt) ∧ DW w0.heap.size n b w1 wr) (fun i _ _ => (intOf i).toNat)
 case atStart => exact ⟨K, [], _, _, by simp, rfl, rfl, hOn, hX3, hR3, hA3, hd3⟩
 case round =>
  clear hX3 hOn hR3 hA3 hd3
  obtain ⟨k, ps, ol, cl, hkK, rfl, rfl, hO, hX, hR, hA, hd⟩ := hrel
  have hlX := hX.1.lt
  have hlR := hR.1.lt
  by_cases hk0 : 0 < k
  ·have HK := Lib.hid hkK
   have hps : ps.length ≤ 10 := by omega
   have hk10 : k ≤ 10 := by omega
   clear hkK
   have i0 : (0 : Int) < (k : Int) := by omega
   obtain ⟨⟨x0, x1⟩, xf⟩ := id hX
   obtain ⟨T, hT⟩ : ∃ T, wr.heap.size = T := ⟨_, rfl⟩
   have hba : Below wr.heap.size wr ((wr.alloc (.cells #[.int .i64 0] 2)).alloc (.cells #[.int .i64 m, .slice (some ⟨T, 0, none⟩) 1 1] 34)) := bZ
   have hC4 : OwI ((wr.alloc (.cells #[.int .i64 0] 2)).alloc (.cells #[.int .i64 m, .slice (some ⟨T, 0, none⟩) 1 1] 34)) T (.slice (some ⟨T, 0, none⟩) 1 1) [0] := by
    rw [← hT]; exact (OwI.lit wr [0] (by decide)).below bZ
   have hS4 : RB2 ((wr.alloc (.cells #[.int .i64 0] 2)).alloc (.cells #[.int .i64 m, .slice (some ⟨T, 0, none⟩) 1 1] 34)) (T + 1) (.int .i64 m) (.slice (some ⟨T, 0, none⟩) 1 1) := by
    have h := RB2.mk1 (wr.alloc (.cells #[.int .i64 0] 2)) (.int .i64 m) (.slice (some ⟨T, 0, none⟩) 1 1) 34
    rw [show (wr.alloc (.cells #[.int .i64 0] 2)).heap.size = T + 1 by simp [hT]] at h
    exact h
   have hO4 := hO.top.below hba
   rw [hT] at hO4
   have hX4 := hX.below hba (nl _)
   have hR4 := hR.below hba (nl _)
   have hA4 := hA.below hba
   have hd4 := hd.below hba
   clear hO hX hR hA hd
   rw [hT] at hlX hlR
   go_wp2_with fail
   clear x0 x1 xf
   generalize (wr.alloc (.cells #[.int .i64 0] 2)).alloc (.cells #[.int .i64 m, .slice (some ⟨T, 0, none⟩) 1 1] 34) = w4 at hba hC4 hS4 hO4 hX4 hR4 hA4 hd4 ⊢
   clear hba
   go_loopw [10] (fun iv wr => ∃ (i : Nat) (xs : List Int) (gc cc : Nat), (1 ≤ i ∧ i ≤ 12) ∧ iv = .int .i64 i ∧ Hid (xs.length = i) ∧ gc ≠ T + 1 ∧ OwI wr T (.slice (some ⟨gc, 0, none⟩) i cc) xs ∧ RB2 wr (T + 1) (.int .i64 m) (.slice (some ⟨gc, 0, none⟩) i cc) ∧ OwP wr w2.heap.size (fun b => b = p ∨ T ≤ b) (.slice ol ps.length cl) ps ∧ RB2 wr p (.int .i64 m) (.slice ot q ct) ∧ RB2 wr w.heap.size (.int .i64 0) (.slice none 0 0) ∧ Rds w1.heap.size hi wr (fun u => RdT u (.slice ot q ct) tt) ∧ DW w0.heap.size n b w1 wr) (fun iv _ => 13 - (intOf iv).toNat)
   case atStart => exact ⟨1, [0], T, 1, by omega, rfl, Lib.hid rfl, by omega, hC4, hS4, hO4, hX4, hR4, hA4, hd4⟩
   case round =>
    clear hC4 hS4 hO4 hX4 hR4 hA4 hd4
    obtain ⟨i, xs, gc, cc, ⟨hi1, hi2⟩, rfl, HL, hgc, hC, hS, hO, hX, hR, hA, hd⟩ := hrel
    have hgcl := hC.lt gc rfl
    have hlS := hS.1.lt
    by_cases hiq : i < q
    ·have j0 : (i : Int) < (q : Int) := by omega
     obtain ⟨⟨x0, x1⟩, xf⟩ := id hX
     obtain ⟨⟨s0, s1⟩, sf⟩ := id hS
     have n1 : p ≠ T + 1 := by omega
     go_wp2_with fail
     have hd0 : Below wr.heap.size wr wr.drew := (Below.refl _ _).drew
     have hsd0 := hd0.size
     refine wp_region_K (S := fun w' => w'.cell? ⟨p, 0, none⟩ = some (.int .i64 m) ∧ w'.cell? ⟨T + 1, 1, none⟩ = some (.slice (some ⟨gc, 0, none⟩) i cc)) [8, 10] (by kernel_rfl) ?_
     have hHeld : (fun w' : World => w'.cell? ⟨p, 0, none⟩ = some (.int .i64 m) ∧ w'.cell? ⟨T + 1, 1, none⟩ = some (.slice (some ⟨gc, 0, none⟩) i cc)) wr.drew := by go_keep
     refine' wpAnyK_takeL (i := 0) (v := _) rfl (by kernel_rfl) (by kernel_rfl) (by kernel_rfl) (by kernel_rfl) (fun _ _ _ h => h) (Or.inl ⟨by rfl, ?yT1⟩) hHeld ?rT1
     case yT1 => (intro w' hSw; (try dsimp only at hSw); go_simp; try with_reducible rfl)
     try simp only [Act.put, sL]
     refine' wpAnyK_takeL (i := 1) (v := _) rfl (by kernel_rfl) (by kernel_rfl) (by kernel_rfl) (by kernel_rfl) (fun _ _ _ h => h) (Or.inl ⟨by rfl, ?yT2⟩) hHeld ?rT2
     case yT2 => (intro w' hSw; (try dsimp only at hSw); go_simp; try with_reducible rfl)
     try simp only [Act.put, sL]
     refine' wpAnyK_takeL (i := 2) (v := _) rfl (by kernel_rfl) (by kernel_rfl) (by kernel_rfl) (by kernel_rfl) (fun _ _ _ h => h) (Or.inl ⟨by rfl, ?yT3⟩) hHeld ?rT3
     case yT3 => (intro w' hSw; (try dsimp only at hSw); go_simp; try with_reducible rfl)
     try simp only [Act.put, sL]
     refine' wpAnyK_takeL (i := 3) (v := _) rfl (by kernel_rfl) (by kernel_rfl) (by kernel_rfl) (by kernel_rfl) (fun _ _ _ h => h) (Or.inl ⟨by rfl, ?yT4⟩) hHeld ?rT4
     case yT4 => (intro w' hSw; (try dsimp only at hSw); go_simp; try with_reducible rfl)
     try simp only [Act.put, sL]
     refine' wpAnyK_takeL (i := 4) (v := _) rfl (by kernel_rfl) (by kernel_rfl) (by kernel_rfl) (by kernel_rfl) (fun _ _ _ h => h) (Or.inl ⟨by rfl, ?yT5⟩) hHeld ?rT5
     case yT5 => (intro w' hSw; (try dsimp only at hSw); go_simp; try with_reducible rfl)
     try simp only [Act.put, sL]
     refine' wpAnyK_takeL (i := 5) (v := _) rfl (by kernel_rfl) (by kernel_rfl) (by kernel_rfl) (by kernel_rfl) (fun _ _ _ h => h) (Or.inl ⟨by rfl, ?yT6⟩) hHeld ?rT6
     case yT6 => (intro w' hSw; (try dsimp only at hSw); go_simp; try with_reducible rfl)
     try simp only [Act.put, sL]
     refine wpAnyK_oneL (i := 6) rfl (by kernel_rfl) (fun K hK => ?_)
     go_simp
     go_at_call 38
     refine (next_d _ n b _ _ hd.drew.src).mono ?_
     rintro e w5 ⟨y, rfl, y0, y1, y2, hd5, hz5⟩
     have hX5 := (show RB2 wr.drew _ _ _ from hX).dw hd5 (by omega)
     have hS5 := (show RB2 wr.drew _ _ _ from hS).dw hd5 (by omega)
     have hR5 := (show RB2 wr.drew _ _ _ from hR).chg hd5.chg (.inl (by omega))
     have hC5 := (show OwI wr.drew _ _ _ from hC).dw hd5 (by omega)
     have hO5 := (hO.below (w' := wr.drew) ((Below.refl _ _).drew)).dw hd5 (by omega)
     have hA5 := (hA.below (w' := wr.drew) ((Below.refl _ _).drew)).dwS hd5 (by omega)
     have hd5 := hd.drew.trans hd5
     have hzw5 : w1.heap.size ≤ w5.heap.size := hd5.size
     have hl5 := hS5.1.lt
     clear y1 y2 hz5 hHeld x0 x1 xf s0 s1 sf hX hS hR hC hO hA hd
     obtain ⟨⟨x0, x1⟩, xf⟩ := id hX5
     obtain ⟨⟨s0, s1⟩, sf⟩ := id hS5
     go_wp2_with fail
     have hHeld : (fun w' : World => w'.cell? ⟨p, 0, none⟩ = some (.int .i64 m) ∧ w'.cell? ⟨T + 1, 1, none⟩ = some (.slice (some ⟨gc, 0, none⟩) i cc)) w5 := by go_keep
     refine hK.out _ _ (fun _ => hHeld) ?_
     clear hK K
     try simp only [Act.put, sL]
     refine wpAnyK_oneL (i := 7) rfl (by kernel_rfl) (fun K hK => ?_)
     go_simp
     obtain ⟨wl, hwl⟩ : ∃ x : World, x = w5.alloc (.cells #[.int .i64 y] 2) := ⟨_, rfl⟩
     have hbl : Below w5.heap.size w5 wl := by rw [hwl]; exact bZ
     have hYl : RdI wl (.slice (some ⟨w5.heap.size, 0, none⟩) 1 1) [y] := by rw [hwl]; exact (OwI.lit w5 [y] (by simp [maxLen])).rd
     have hzl : wl.heap.size = w5.heap.size + 1 := by rw [hwl]; simp
     have hX6 := hX5.below hbl (nl _)
     have hS6 := hS5.below hbl (nl _)
     have hR6 := hR5.below hbl (nl _)
     have hC6 := hC5.below hbl
     have hO6 := hO5.below hbl
     have hA6 := hA5.below hbl
     have hd6 := hd5.below hbl
     clear hX5 hS5 hR5 hC5 hO5 hA5 hd5 hbl x0 x1 xf s0 s1 sf hHeld
     rw [← hwl]
     clear hwl
     obtain ⟨⟨x0, x1⟩, xf⟩ := id hX6
     obtain ⟨⟨s0, s1⟩, sf⟩ := id hS6
     have hHeld : (fun w' : World => w'.cell? ⟨p, 0, none⟩ = some (.int .i64 m) ∧ w'.cell? ⟨T + 1, 1, none⟩ = some (.slice (some ⟨gc, 0, none⟩) i cc)) wl := by go_keep
     refine hK.out _ _ (fun _ => hHeld) ?_
     clear hK K
     try simp only [Act.put, sL]
     refine wpAnyK_oneL (i := 8) rfl (by kernel_rfl) (fun K hK => ?_)
     refine stR wl rfl _ _ rfl T (.slice (some ⟨gc, 0, none⟩) i cc) xs rfl hC6 ⟨w5.heap.size, 0, none⟩ 1 1 [y] rfl hYl (by have := HL.out; simp; omega) (by omega) ?_
     intro o7 c7 w7 hC7 hgr hb7
     rw [show (xs ++ [y]).length = i + 1 by simp [HL.out]] at hC7 ⊢
     have hne7 : ∀ j, (Value.slice (some ⟨gc, 0, none⟩) i cc).ownBlock = some j → gc = j := fun j hj => by simpa [Value.ownBlock] using hj
     have hX7 := hX6.grown hgr (fun e => by have := hne7 _ e.symm; omega)
     have hS7 := hS6.grown hgr (fun e => by have := hne7 _ e.symm; omega)
     have hR7 := hR6.grown hgr (fun e => by have := hne7 _ e.symm; omega)
     have hO7 := hO6.grown hgr (fun j hj => by have := hne7 _ hj; omega)
     have hA7 := hA6.grown hgr (fun j hj => .inr (by have := hne7 _ hj; omega))
     have hd7 := hd6.grown hgr (fun j hj => by have := hne7 _ hj; omega)
     clear hX6 hS6 hR6 hC6 hO6 hA6 hd6 hgr hb7 hne7 hYl x0 x1 xf s0 s1 sf hHeld
     obtain ⟨⟨s0, s1⟩, sf⟩ := id hS7
     obtain ⟨⟨x0, x1⟩, xf⟩ := id hX7
     have hHeld : (fun w' : World => w'.cell? ⟨p, 0, none⟩ = some (.int .i64 m) ∧ w'.cell? ⟨T + 1, 1, none⟩ = some (.slice (some ⟨gc, 0, none⟩) i cc)) w7 := by go_keep
     refine hK.out _ _ (fun h => absurd h (by decide)) ?_
     clear hK K
     try simp only [Act.put, sL]
     refine' wpAnyK_takeL (i := 9) (v := _) rfl (by kernel_rfl) (by kernel_rfl) (by kernel_rfl) (by kernel_rfl) (fun _ _ _ h => h) (Or.inl ⟨by rfl, ?yT7⟩) hHeld ?rT7
     case yT7 => (intro w' hSw; (try dsimp only at hSw); go_simp; try with_reducible rfl)
     try simp only [Act.put, sL]
     refine wpAnyK_oneL (i := 10) rfl (by kernel_rfl) (fun K hK => ?_)
     go_simp
     (try go_wp2_with fail)
     refine hK.out _ _ (fun h => absurd h (by decide)) ?_
     clear hK K
     try simp only [Act.put, sL]
     refine wpAnyK_done (by kernel_rfl) ?_ _
     go_wp2_with fail
     clear x0 x1 xf
     obtain ⟨g7, rfl, hg7, hg7'⟩ := hC7.row (by omega)
     have hg7n := own_ne hC7 (by have := HL.out; simp; omega) hS7.1
     have HL7 := Lib.hid (show (xs ++ [y]).length = i + 1 by simp [HL.out])
     have hC8 := hC7.ne (b := T + 1) (k := 1) (fun j hj => by have e : g7 = j := (by simpa [Value.ownBlock] using hj); omega) (.slice (some ⟨g7, 0, none⟩) (i + 1) c7)
     have hS8 := hS7.put1 (.slice (some ⟨g7, 0, none⟩) (i + 1) c7)
     have hO8 := hO7.put (g := T + 1) (by omega) 1 (.slice (some ⟨g7, 0, none⟩) (i + 1) c7)
     have hX8 := hX7.off (g := T + 1) (k := 1) (by omega) (.slice (some ⟨g7, 0, none⟩) (i + 1) c7)
     have hR8 := hR7.off (g := T + 1) (k := 1) (by omega) (.slice (some ⟨g7, 0, none⟩) (i + 1) c7)
     have hA8 := hA7.put (b := T + 1) (.inr (by omega)) 1 (.slice (some ⟨g7, 0, none⟩) (i + 1) c7)
     have hd8 := hd7.put (g := T + 1) (by omega) 1 (.slice (some ⟨g7, 0, none⟩) (i + 1) c7)
     go_wp2
     exact ⟨⟨i + 1, xs ++ [y], g7, c7, by omega, by go_num, HL7, hg7n, hC8, hS8, hO8, hX8, hR8, hA8, hd8⟩, by simp [intOf]; omega⟩
    ·have j0 : ¬ (i : Int) < (q : Int) := by omega
     obtain ⟨⟨x0, x1⟩, xf⟩ := id hX
     go_wp2_with fail
     refine (next_d _ n b _ wr hd.src).mono ?_
     rintro e w5 ⟨t, rfl, t0, t1, t2, hd5, hz5⟩
     have hX5 := hX.dw hd5 (by omega)
     have hS5 := hS.dw hd5 (by omega)
     have hR5 := hR.chg hd5.chg (.inl (by omega))
     have hC5 := hC.dw hd5 (by omega)
     have hO5 := hO.dw hd5 (by omega)
     have hA5 := hA.dwS hd5 (by omega)
     have hd5 := hd.trans hd5
     have hl5 := hS5.1.lt
     clear t1 t2 hz5 x0 x1 xf hX hS hR hC hO hA hd
     by_cases h0 : t = 0
     ·subst h0
      obtain ⟨⟨s0, s1⟩, sf⟩ := id hS5
      have hc0 := hC5.cell (k := 0) (some_at0 (xs := xs) (k := 0) (by have := HL.out; omega))
      have hf0 := hC5.fz 0
      have j1 : (0 : Int) < (i : Int) := by omega
      have hC6 := hC5.put 0 1
      have hS6 := hS5.off (g := gc) (k := 0) hgc (.int .i64 1)
      have hO6 := hO5.put (g := gc) (by omega) 0 (.int .i64 1)
      have hX6 := hX5.off (g := gc) (k := 0) (by omega) (.int .i64 1)
      have hR6 := hR5.off (g := gc) (k := 0) (by omega) (.int .i64 1)
      have hA6 := hA5.put (b := gc) (.inr (by omega)) 0 (.int .i64 1)
      have hd6 := hd5.put (g := gc) (by omega) 0 (.int .i64 1)
      clear hC5 hS5 hO5 hX5 hR5 hA5 hd5
      obtain ⟨⟨s0, s1⟩, sf⟩ := id hS6
      obtain ⟨⟨x0, x1⟩, xf⟩ := id hX6
      have hl6 := hS6.1.lt
      obtain ⟨W, hW⟩ : ∃ W : World, W = (w5.setCell ⟨gc, 0, none⟩ (.int .i64 1)).alloc (.cells #[.int .i64 m, .slice (some ⟨gc, 0, none⟩) i cc] 34) := ⟨_, rfl⟩
      have hWb : Below (w5.setCell ⟨gc, 0, none⟩ (.int .i64 1)).heap.size (w5.setCell ⟨gc, 0, none⟩ (.int .i64 1)) W := by rw [hW]; exact bZ
      have hsz0 : (w5.setCell ⟨gc, 0, none⟩ (.int .i64 1)).heap.size = w5.heap.size := by first | rfl | simp
      have hK0 : W.cell? ⟨w5.heap.size, 0, none⟩ = some (.int .i64 m) := by rw [hW, ← hsz0]; exact (Box2.mk' _ _ _ _).1
      have hK1 : W.cell? ⟨w5.heap.size, 1, none⟩ = some (.slice (some ⟨gc, 0, none⟩) i cc) := by rw [hW, ← hsz0]; exact (Box2.mk' _ _ _ _).2
      have hWs := hWb.size
      have hCw := hC6.below hWb
      have hOw := hO6.below hWb
      have hXw := hX6.below hWb (nl _)
      have hRw := hR6.below hWb (nl _)
      have hAw := hA6.below hWb
      have hdw := hd6.below hWb
      have hgl := hC6.lt gc rfl
      have hub : ∀ j, (Value.slice (some ⟨gc, 0, none⟩) i cc).ownBlock = some j → T ≤ j ∧ ¬ j = p := fun j hj => by
       have e : gc = j := by simpa [Value.ownBlock] using hj
       omega
      have hol := hO6.lt
      have hon := hO6.notX
      have HW := Lib.hid hW
      clear hW
      go_wp2_with (at_builtin; go_loud (rw [← HW.out]; refine apP W rfl _ _ rfl w2.heap.size T (fun b => b = p) (.slice ol ps.length cl) ps rfl hOw (by omega) (by omega) m (.slice (some ⟨gc, 0, none⟩) i cc) (xs.set 0 1) w5.heap.size rfl hK0 hK1 rfl (hCw.mono (by omega)) hub (by omega) (by omega) ?_; intro g9 c9 w9 hO9 hgr9 hb9 hlie))
      have hX9 := hXw.grown hgr9 (fun e => hon _ e.symm (.inl rfl))
      have hR9 := hRw.grown hgr9 (fun e => by have := hol _ e.symm; omega)
      have hA9 := hAw.grown hgr9 (fun j hj => .inr (by have := hol _ hj; omega))
      have hd9 := hdw.grown hgr9 (fun j hj => by have := hol _ hj; omega)
      have hkK := HK.out
      exact ⟨⟨k - 1, ps ++ [(m, (xs.set 0 1))], some ⟨g9, 0, none⟩, c9, by simp; omega, by go_num, by simp, by rw [List.length_append]; exact hO9, hX9, hR9, hA9, hd9⟩, by simp [intOf]; omega⟩
     by_cases h1 : t = 1
     ·subst h1
      obtain ⟨⟨s0, s1⟩, sf⟩ := id hS5
      obtain ⟨m', hm'⟩ : ∃ m', IntKind.i64.wrap (m + 1) = m' := ⟨_, rfl⟩
      have hS6 : RB2 (w5.setCell ⟨T + 1, 0, none⟩ (.int .i64 m')) (T + 1) (.int .i64 m') (.slice (some ⟨gc, 0, none⟩) i cc) := hS5.put0 (.int .i64 m')
      have hC6 := hC5.ne (b := T + 1) (k := 0) (fun j hj => by have e : gc = j := (by simpa [Value.ownBlock] using hj); omega) (.int .i64 m')
      have hO6 := hO5.put (g := T + 1) (by omega) 0 (.int .i64 m')
      have hX6 := hX5.off (g := T + 1) (k := 0) (by omega) (.int .i64 m')
      have hR6 := hR5.off (g := T + 1) (k := 0) (by omega) (.int .i64 m')
      have hA6 := hA5.put (b := T + 1) (.inr (by omega)) 0 (.int .i64 m')
      have hd6 := hd5.put (g := T + 1) (by omega) 0 (.int .i64 m')
      clear hC5 hS5 hO5 hX5 hR5 hA5 hd5
      obtain ⟨⟨s0, s1⟩, sf⟩ := id hS6
      obtain ⟨⟨x0, x1⟩, xf⟩ := id hX6
      have hl6 := hS6.1.lt
      obtain ⟨W, hW⟩ : ∃ W : World, W = (w5.setCell ⟨T + 1, 0, none⟩ (.int .i64 m')).alloc (.cells #[.int .i64 m', .slice (some ⟨gc, 0, none⟩) i cc] 34) := ⟨_, rfl⟩
      have hWb : Below (w5.setCell ⟨T + 1, 0, none⟩ (.int .i64 m')).heap.size (w5.setCell ⟨T + 1, 0, none⟩ (.int .i64 m')) W := by rw [hW]; exact bZ
      have hsz0 : (w5.setCell ⟨T + 1, 0, none⟩ (.int .i64 m')).heap.size = w5.heap.size := by first | rfl | simp
      have hK0 : W.cell? ⟨w5.heap.size, 0, none⟩ = some (.int .i64 m') := by rw [hW, ← hsz0]; exact (Box2.mk' _ _ _ _).1
      have hK1 : W.cell? ⟨w5.heap.size, 1, none⟩ = some (.slice (some ⟨gc, 0, none⟩) i cc) := by rw [hW, ← hsz0]; exact (Box2.mk' _ _ _ _).2
      have hWs := hWb.size
      have hCw := hC6.below hWb
      have hOw := hO6.below hWb
      have hXw := hX6.below hWb (nl _)
      have hRw := hR6.below hWb (nl _)
      have hAw := hA6.below hWb
      have hdw := hd6.below hWb
      have hgl := hC6.lt gc rfl
      have hub : ∀ j, (Value.slice (some ⟨gc, 0, none⟩) i cc).ownBlock = some j → T ≤ j ∧ ¬ j = p := fun j hj => by
       have e : gc = j := by simpa [Value.ownBlock] using hj
       omega
      have hol := hO6.lt
      have hon := hO6.notX
      have HW := Lib.hid hW
      clear hW
      go_wp2_with (at_builtin; go_loud (rw [← HW.out]; refine apP W rfl _ _ rfl w2.heap.size T (fun b => b = p) (.slice ol ps.length cl) ps rfl hOw (by omega) (by omega) m' (.slice (some ⟨gc, 0, none⟩) i cc) xs w5.heap.size rfl hK0 hK1 rfl (hCw.mono (by omega)) hub (by omega) (by omega) ?_; intro g9 c9 w9 hO9 hgr9 hb9 hlie))
      have hX9 := hXw.grown hgr9 (fun e => hon _ e.symm (.inl rfl))
      have hR9 := hRw.grown hgr9 (fun e => by have := hol _ e.symm; omega)
      have hA9 := hAw.grown hgr9 (fun j hj => .inr (by have := hol _ hj; omega))
      have hd9 := hdw.grown hgr9 (fun j hj => by have := hol _ hj; omega)
      have hkK := HK.out
      exact ⟨⟨k - 1, ps ++ [(m', xs)], some ⟨g9, 0, none⟩, c9, by simp; omega, by go_num, by simp, by rw [List.length_append]; exact hO9, hX9, hR9, hA9, hd9⟩, by simp [intOf]; omega⟩
     by_cases h2 : t = 2
     ·subst h2
      obtain ⟨⟨s0, s1⟩, sf⟩ := id hS5
      have hne7 : ∀ j, (Value.slice (some ⟨gc, 0, none⟩) i cc).ownBlock = some j → gc = j := fun j hj => by simpa [Value.ownBlock] using hj
      go_wp2_with (at_builtin; first | (obtain ⟨wl, hwl⟩ : ∃ x : World, x = w5.alloc (.cells #[.int .i64 0] 2) := ⟨_, rfl⟩; have hbl : Below w5.heap.size w5 wl := (by rw [hwl]; exact bZ); have hYl : RdI wl (.slice (some ⟨w5.heap.size, 0, none⟩) 1 1) [0] := (by rw [hwl]; exact (OwI.lit w5 [0] (by simp [maxLen])).rd); have hzl : wl.heap.size = w5.heap.size + 1 := (by rw [hwl]; simp); rw [← hwl]; clear hwl; refine apR wl rfl _ _ rfl T (.slice (some ⟨gc, 0, none⟩) i cc) xs rfl (hC5.below hbl) ⟨w5.heap.size, 0, none⟩ 1 1 [0] rfl hYl (by have := HL.out; simp; omega) (by omega) ?_; intro o7 c7 w7 hC7 hgr hb7; rw [show (xs ++ [(0 : Int)]).length = i + 1 by simp [HL.out]] at hC7 ⊢; have hX7 := (hX5.below hbl (nl _)).grown hgr (fun e => by have := hne7 _ e.symm; omega); have hS7 := (hS5.below hbl (nl _)).grown hgr (fun e => by have := hne7 _ e.symm; omega); have hR7 := (hR5.below hbl (nl _)).grown hgr (fun e => by have := hne7 _ e.symm; omega); have hO7 := (hO5.below hbl).grown hgr (fun j hj => by have := hne7 _ hj; omega); have hA7 := (hA5.below hbl).grown hgr (fun j hj => .inr (by have := hne7 _ hj; omega)); have hd7 := (hd5.below hbl).grown hgr (fun j hj => by have := hne7 _ hj; omega); obtain ⟨g7, rfl, hg7, hg7'⟩ := hC7.row (by omega); have hg7n := own_ne hC7 (by have := HL.out; simp; omega) hS7.1; have HL7 := Lib.hid (show (xs ++ [(0 : Int)]).length = i + 1 by simp [HL.out]); have hC6 := hC7.ne (b := T + 1) (k := 1) (fun j hj => by have e : g7 = j := (by simpa [Value.ownBlock] using hj); omega) (.slice (some ⟨g7, 0, none⟩) (i + 1) c7); have hS6 := hS7.put1 (.slice (some ⟨g7, 0, none⟩) (i + 1) c7); have hO6 := hO7.put (g := T + 1) (by omega) 1 (.slice (some ⟨g7, 0, none⟩) (i + 1) c7); have hX6 := hX7.off (g := T + 1) (k := 1) (by omega) (.slice (some ⟨g7, 0, none⟩) (i + 1) c7); have hR6 := hR7.off (g := T + 1) (k := 1) (by omega) (.slice (some ⟨g7, 0, none⟩) (i + 1) c7); have hA6 := hA7.put (b := T + 1) (.inr (by omega)) 1 (.slice (some ⟨g7, 0, none⟩) (i + 1) c7); have hd6 := hd7.put (g := T + 1) (by omega) 1 (.slice (some ⟨g7, 0, none⟩) (i + 1) c7); clear s0 s1 sf; obtain ⟨⟨s0, s1⟩, sf⟩ := id hS7; obtain ⟨⟨s2, s3⟩, sg⟩ := id hS6; obtain ⟨⟨x0, x1⟩, xf⟩ := id hX6; have hl6 := hS6.1.lt; obtain ⟨W, hW⟩ : ∃ W : World, W = (w7.setCell ⟨T + 1, 1, none⟩ (.slice (some ⟨g7, 0, none⟩) (i + 1) c7)).alloc (.cells #[.int .i64 m, .slice (some ⟨g7, 0, none⟩) (i + 1) c7] 34) := ⟨_, rfl⟩; have hWb : Below (w7.setCell ⟨T + 1, 1, none⟩ (.slice (some ⟨g7, 0, none⟩) (i + 1) c7)).heap.size (w7.setCell ⟨T + 1, 1, none⟩ (.slice (some ⟨g7, 0, none⟩) (i + 1) c7)) W := (by rw [hW]; exact bZ); have hsz0 : (w7.setCell ⟨T + 1, 1, none⟩ (.slice (some ⟨g7, 0, none⟩) (i + 1) c7)).heap.size = w7.heap.size := (by first | rfl | simp); have hK0 : W.cell? ⟨w7.heap.size, 0, none⟩ = some (.int .i64 m) := (by rw [hW, ← hsz0]; exact (Box2.mk' _ _ _ _).1); have hK1 : W.cell? ⟨w7.heap.size, 1, none⟩ = some (.slice (some ⟨g7, 0, none⟩) (i + 1) c7) := (by rw [hW, ← hsz0]; exact (Box2.mk' _ _ _ _).2); have hWs := hWb.size; have hCw := hC6.below hWb; have hOw := hO6.below hWb; have hXw := hX6.below hWb (nl _); have hRw := hR6.below hWb (nl _); have hAw := hA6.below hWb; have hdw := hd6.below hWb; have hgl := hC6.lt g7 rfl; have hub : ∀ j, (Value.slice (some ⟨g7, 0, none⟩) (i + 1) c7).ownBlock = some j → T ≤ j ∧ ¬ j = p := (fun j hj => by have e : g7 = j := (by simpa [Value.ownBlock] using hj); omega); have hol := hO6.lt; have hon := hO6.notX; have HW := Lib.hid hW; clear hW) | go_loud (rw [← HW.out]; refine apP W rfl _ _ rfl w2.heap.size T (fun b => b = p) (.slice ol ps.length cl) ps rfl hOw (by omega) (by omega) m (.slice (some ⟨g7, 0, none⟩) (i + 1) c7) (xs ++ [0]) w7.heap.size rfl hK0 hK1 rfl (hCw.mono (by omega)) hub (by omega) (by omega) ?_; intro g9 c9 w9 hO9 hgr9 hb9 hlie))
      have hX9 := hXw.grown hgr9 (fun e => hon _ e.symm (.inl rfl))
      have hR9 := hRw.grown hgr9 (fun e => by have := hol _ e.symm; omega)
      have hA9 := hAw.grown hgr9 (fun j hj => .inr (by have := hol _ hj; omega))
      have hd9 := hdw.grown hgr9 (fun j hj => by have := hol _ hj; omega)
      have hkK := HK.out
      exact ⟨⟨k - 1, ps ++ [(m, (xs ++ [0]))], some ⟨g9, 0, none⟩, c9, by simp; omega, by go_num, by simp, by rw [List.length_append]; exact hO9, hX9, hR9, hA9, hd9⟩, by simp [intOf]; omega⟩
     have h0' : (t == 0) = false := by simpa using h0
     have h1' : (t == 1) = false := by simpa using h1
     have h2' : (t == 2) = false := by simpa using h2
     obtain ⟨⟨s0, s1⟩, sf⟩ := id hS5
     obtain ⟨⟨x0, x1⟩, xf⟩ := id hX5
     have hl5 := hS5.1.lt
     obtain ⟨W, hW⟩ : ∃ W : World, W = w5.alloc (.cells #[.int .i64 m, .slice (some ⟨gc, 0, none⟩) i cc] 34) := ⟨_, rfl⟩
     have hWb : Below w5.heap.size w5 W := by rw [hW]; exact bZ
     have hsz0 : w5.heap.size = w5.heap.size := by first | rfl | simp
     have hK0 : W.cell? ⟨w5.heap.size, 0, none⟩ = some (.int .i64 m) := by rw [hW, ← hsz0]; exact (Box2.mk' _ _ _ _).1
     have hK1 : W.cell? ⟨w5.heap.size, 1, none⟩ = some (.slice (some ⟨gc, 0, none⟩) i cc) := by rw [hW, ← hsz0]; exact (Box2.mk' _ _ _ _).2
     have hWs := hWb.size
     have hCw := hC5.below hWb
     have hOw := hO5.below hWb
     have hXw := hX5.below hWb (nl _)
     have hRw := hR5.below hWb (nl _)
     have hAw := hA5.below hWb
     have hdw := hd5.below hWb
     have hgl := hC5.lt gc rfl
     have hub : ∀ j, (Value.slice (some ⟨gc, 0, none⟩) i cc).ownBlock = some j → T ≤ j ∧ ¬ j = p := fun j hj => by
      have e : gc = j := by simpa [Value.ownBlock] using hj
      omega
     have hol := hO5.lt
     have hon := hO5.notX
     have HW := Lib.hid hW
     clear hW
     go_wp2_with (at_builtin; go_loud (rw [← HW.out]; refine apP W rfl _ _ rfl w2.heap.size T (fun b => b = p) (.slice ol ps.length cl) ps rfl hOw (by omega) (by omega) m (.slice (some ⟨gc, 0, none⟩) i cc) xs w5.heap.size rfl hK0 hK1 rfl (hCw.mono (by omega)) hub (by omega) (by omega) ?_; intro g9 c9 w9 hO9 hgr9 hb9 hlie))
     have hX9 := hXw.grown hgr9 (fun e => hon _ e.symm (.inl rfl))
     have hR9 := hRw.grown hgr9 (fun e => by have := hol _ e.symm; omega)
     have hA9 := hAw.grown hgr9 (fun j hj => .inr (by have := hol _ hj; omega))
     have hd9 := hdw.grown hgr9 (fun j hj => by have := hol _ hj; omega)
     have hkK := HK.out
     exact ⟨⟨k - 1, ps ++ [(m, xs)], some ⟨g9, 0, none⟩, c9, by simp; omega, by go_num, by simp, by rw [List.length_append]; exact hO9, hX9, hR9, hA9, hd9⟩, by simp [intOf]; omega⟩
  ·obtain rfl : k = 0 := by omega
   have i0 : ¬ (0 : Int) < ((0 : Nat) : Int) := by omega
   obtain ⟨⟨x0, x1⟩, xf⟩ := id hX
   obtain ⟨⟨r0, r1⟩, rf⟩ := id hR
   have n1 : w.heap.size ≠ p := by omega
   have hAr := hA
   go_wp2_with fail
   refine bodyPost_ret (v := .tuple #[.agg #[.int .i64 m, .slice ot q ct], .slice ol ps.length cl]) (by simp [results, Tryz.results43, go_sem, r0, r1]) rfl ⟨m, .slice ot q ct, .slice ol ps.length cl, tt, ps, hi, rfl, ?_, ?_, by simpa using hkK, ?_⟩
   ·exact ((hAr.put (.inl (by omega)) _ _).put (.inl (by omega)) _ _).weak (by omega)
   ·exact (((hO.putB (by omega) _ _).putB (by omega) _ _).weak (fun _ h => h.elim)).mono (by omega)
   ·exact below_put (below_put (hd.out hb1 (by omega)) (by omega) _) (by omega) _
end Go.Proofs.YtfpphfjlpgefaaaGreat
