/- Lemmas. -/
import Derived.Test.YtfpphfjlpgefaaaGreatQLDrH
import Derived.Test.YtfpphfjlpgefaaaGreatQLM1
import Derived.ProofKit
import Derived.Lib.SmallJoins
set_option maxHeartbeats 4000000
set_option maxRecDepth 100000
set_option linter.unusedSimpArgs false
set_option linter.unusedVariables false
namespace Go.Proofs.YtfpphfjlpgefaaaGreat
open Go.RowKit

theorem cput {w : World} {g b k j : Nat} {v : Value} (h : w.cell? ⟨g, k, none⟩ = some v) (hne : g ≠ b) (x : Value) : (w.setCell ⟨b, j, none⟩ x).cell? ⟨g, k, none⟩ = some v :=
 (World.cell?_setCell_other w ⟨b, j, none⟩ ⟨g, k, none⟩ x (fun e => hne (congrArg Addr.block e).symm)).trans h
def P3Dr (w w' : World) (e : Ending) : Prop := ∃ (m : Int) (v : Value) (tt : List (List Int)) (m1 : Int) (u1 : Value) (l1 : List Int) (m2 : Int) (u2 : Value) (l2 : List Int), e = .returned (.tuple #[.agg #[.int .i64 m, v], .agg #[.int .i64 m1, u1], .agg #[.int .i64 m2, u2]]) ∧ RdT w' v tt ∧ RdI w' u1 l1 ∧ RdI w' u2 l2 ∧ Below w.heap.size w w'
theorem OwP.two {w : World} {B : Nat} {X : Nat → Prop} {v : Value} {ps : List (Int × List Int)} (h : OwP w B X v ps) (h2 : ps.length = 2) : ∃ g c m1 o1 c1 l1 m2 o2 c2 l2, v = .slice (some ⟨g, 0, none⟩) 2 c ∧ (B ≤ g ∧ g < w.heap.size) ∧ w.cell? ⟨g, 0, none⟩ = some (.int .i64 m1) ∧ w.cell? ⟨g, 1, none⟩ = some (.slice o1 (List.length l1) c1) ∧ w.cell? ⟨g, 2, none⟩ = some (.int .i64 m2) ∧ w.cell? ⟨g, 3, none⟩ = some (.slice o2 (List.length l2) c2) ∧ OwI w B (.slice o1 (List.length l1) c1) l1 ∧ OwI w B (.slice o2 (List.length l2) c2) l2 := by
 have hlt := h.lt
 obtain ⟨us, hl, hr, h1, -⟩ := h
 obtain ⟨⟨m1, l1⟩, ⟨m2, l2⟩, rfl⟩ : ∃ a b, ps = [a, b] := by
  match ps, h2 with
  | [a, b], _ => exact ⟨a, b, rfl⟩
 obtain ⟨u1, u2, rfl⟩ : ∃ a b, us = [a, b] := by
  match us, hl with
  | [a, b], _ => exact ⟨a, b, rfl⟩
 have i1 := h1 0 u1 (m1, l1) rfl rfl
 have i2 := h1 1 u2 (m2, l2) rfl rfl
 obtain ⟨o1, c1, rfl⟩ := i1.shape
 obtain ⟨o2, c2, rfl⟩ := i2.shape
 rcases id hr.2 with ⟨rfl, h0⟩ | ⟨g, cap, cur, rfl, hg, hh, hn, hcm, hcs, ht⟩
 ·simp at h0
 ·refine ⟨g, cap, m1, o1, c1, l1, m2, o2, c2, l2, rfl, hlt g rfl, ?_, ?_, ?_, ?_, i1, i2⟩
  ·exact (World.ownsRow.cellAt hr 0 (by simp)).trans rfl
  ·exact (World.ownsRow.cellAt hr 1 (by simp)).trans rfl
  ·exact (World.ownsRow.cellAt hr 2 (by simp)).trans rfl
  ·exact (World.ownsRow.cellAt hr 3 (by simp)).trans rfl

theorem DrawSumUnder_d (B n : Nat) (v : Value) (w : World) (hv : RdB w B n v) (hB : B ≤ w.heap.size) :
  Calls Tryz.prog 12 #[v] w fun e w' => P3Dr w w' e := by
 obtain ⟨ov, cv, rfl, hmv, hcv⟩ := id hv
 clear hmv hcv
 go_enter Tryz.func12, Tryz.ntmps12
 go_wp2_with fail
 have hR0 := (RB2.mk1 w (.int .i64 0) (.slice none 0 0) 26).below (w' := ((w.alloc (.cells #[.int .i64 0, .slice none 0 0] 26)).alloc (.cells #[.int .i64 0, .slice none 0 0] 34)).alloc (.cells #[.int .i64 0, .slice none 0 0] 34)) bZ (nl _)
 have hS0 := (RB2.mk2 w (.cells #[.int .i64 0, .slice none 0 0] 26) (.int .i64 0) (.slice none 0 0) 34).below (w' := ((w.alloc (.cells #[.int .i64 0, .slice none 0 0] 26)).alloc (.cells #[.int .i64 0, .slice none 0 0] 34)).alloc (.cells #[.int .i64 0, .slice none 0 0] 34)) bZ (nl _)
 have hT0 : RB2 _ (w.heap.size + 1 + 1) _ _ := RB2.mk3 w (.cells #[.int .i64 0, .slice none 0 0] 26) (.cells #[.int .i64 0, .slice none 0 0] 34) (.int .i64 0) (.slice none 0 0) 34
 have hb0 : Below w.heap.size w (((w.alloc (.cells #[.int .i64 0, .slice none 0 0] 26)).alloc (.cells #[.int .i64 0, .slice none 0 0] 34)).alloc (.cells #[.int .i64 0, .slice none 0 0] 34)) := bZ
 generalize ((w.alloc (.cells #[.int .i64 0, .slice none 0 0] 26)).alloc (.cells #[.int .i64 0, .slice none 0 0] 34)).alloc (.cells #[.int .i64 0, .slice none 0 0] 34) = w0 at hR0 hS0 hT0 hb0 ⊢
 have hv0 := hv.keep (w' := w0) (fun k hk => hb0.block k (by omega))
 have hC := l04Curves_d B n _ 2 w0 hv0 (by have := hb0.size; omega) (by decide)
 rw [show ((2 : Nat) : Int) = 2 from rfl] at hC
 refine hC.mono ?_
 clear hC hv0
 rintro e w1 ⟨m, v, u, tt, ps, h1, rfl, hA1, hO1, hps, hb1⟩
 have hz1 := hb1.size
 have hlt0 := hT0.1.lt
 obtain ⟨o, c, rfl, -, -⟩ := id hA1.now
 obtain ⟨g, cg, m1, o1, c1, l1, m2, o2, c2, l2, rfl, ⟨hg1, hg2⟩, hc0, hc1, hc2, hc3, hI1, hI2⟩ := hO1.two hps
 have hR1 := hR0.below hb1 (nl _)
 have hS1 := hS0.below hb1 (nl _)
 have hT1 := hT0.below hb1 (nl _)
 have hb1 := hb0.trans (hb1.mono hb0.size)
 clear hR0 hS0 hT0 hO1 hps hb0
 go_wp2_with fail
 have hX2 := RB2.mk1 w1 (.int .i64 m) (.slice o tt.length c) 26
 have hba : Below w1.heap.size w1 (w1.alloc (.cells #[.int .i64 m, .slice o tt.length c] 26)) := bZ
 have hR2 := hR1.below hba (nl _)
 have hS2 := hS1.below hba (nl _)
 have hT2 := hT1.below hba (nl _)
 have hA2 := hA1.below hba
 have hJ1 := (hI1.rds (by omega)).below hba
 have hJ2 := (hI2.rds (by omega)).below hba
 have hc0 := keep_cell hba (nl _) hc0
 have hc1 := keep_cell hba (nl _) hc1
 have hc2 := keep_cell hba (nl _) hc2
 have hc3 := keep_cell hba (nl _) hc3
 have hb2 : Below w.heap.size w (w1.alloc (.cells #[.int .i64 m, .slice o tt.length c] 26)) := (by (repeat (first | exact bR _ _ | (refine bS ?_ _) | (refine bA ?_ _) | (refine bN ?_ _) | (refine bD ?_) | (refine bT ?_ hb1))))
 have hlx := hX2.1.lt
 clear hR1 hS1 hT1 hA1 hI1 hI2 hba hb1
 generalize w1.alloc (.cells #[.int .i64 m, .slice o tt.length c] 26) = w2 at hX2 hR2 hS2 hT2 hA2 hJ1 hJ2 hc0 hc1 hc2 hc3 hb2 hlx ⊢
 obtain ⟨⟨x0, x1⟩, xf⟩ := id hX2
 go_wp2_with fail
 have n1 : w1.heap.size ≠ w.heap.size := by omega
 have n2 : w1.heap.size ≠ w.heap.size + 1 := by omega
 have n3 : g ≠ w.heap.size := by omega
 have n4 : g ≠ w.heap.size + 1 := by omega
 have hd0 : Below w2.heap.size w2 w2.drew := (Below.refl _ _).drew
 have hsd0 := hd0.size
 refine wp_region_K (S := fun w' => w'.cell? ⟨w1.heap.size, 0, none⟩ = some (.int .i64 m) ∧ w'.cell? ⟨w1.heap.size, 1, none⟩ = some (.slice o tt.length c) ∧ w'.cell? ⟨g, 0, none⟩ = some (.int .i64 m1) ∧ w'.cell? ⟨g, 1, none⟩ = some (.slice o1 l1.length c1) ∧ w'.cell? ⟨g, 2, none⟩ = some (.int .i64 m2) ∧ w'.cell? ⟨g, 3, none⟩ = some (.slice o2 l2.length c2)) [9] (by kernel_rfl) ?_
 have hHeld : (fun w' : World => w'.cell? ⟨w1.heap.size, 0, none⟩ = some (.int .i64 m) ∧ w'.cell? ⟨w1.heap.size, 1, none⟩ = some (.slice o tt.length c) ∧ w'.cell? ⟨g, 0, none⟩ = some (.int .i64 m1) ∧ w'.cell? ⟨g, 1, none⟩ = some (.slice o1 l1.length c1) ∧ w'.cell? ⟨g, 2, none⟩ = some (.int .i64 m2) ∧ w'.cell? ⟨g, 3, none⟩ = some (.slice o2 l2.length c2)) w2.drew := by go_keep
 refine' wpAnyK_takeL (i := 0) (v := _) rfl (by kernel_rfl) (by kernel_rfl) (by kernel_rfl) (by kernel_rfl) (fun _ _ _ h => h) (Or.inl ⟨by rfl, ?yT1⟩) hHeld ?rT1
 case yT1 => (intro w' hSw; (try dsimp only at hSw); go_simp; try with_reducible rfl)
 try simp only [Act.put, sL]
 refine' wpAnyK_takeL (i := 1) (v := _) rfl (by kernel_rfl) (by kernel_rfl) (by kernel_rfl) (by kernel_rfl) (fun _ _ _ h => h) (Or.inl ⟨by rfl, ?yT2⟩) hHeld ?rT2
 case yT2 => (intro w' hSw; (try dsimp only at hSw); go_simp; try with_reducible rfl)
 try simp only [Act.put, sL]
 refine' wpAnyK_takeL (i := 2) (v := _) rfl (by kernel_rfl) (by kernel_rfl) (by kernel_rfl) (by kernel_rfl) (fun _ _ _ h => h) (Or.inl ⟨by rfl, ?yT3⟩) hHeld ?rT3
 case yT3 => (intro w' hSw; (try dsimp only at hSw); go_simp; try with_reducible rfl)
 try simp only [Act.put, sL]
 refine' wpAnyK_takeL (i := 3) (v := _) rfl (by kernel_rfl) (by kernel_rfl) (by kernel_rfl) (by kernel_rfl) (fun _ _ _ h => h) (Or.inl ⟨by rfl, ?yT4⟩) hHeld ?rT4
 case yT4 => (intro w' hSw; (try dsimp only at hSw); go_simp; try with_reducible rfl)
 try simp only [Act.put, sL]
 refine' wpAnyK_takeL (i := 4) (v := _) rfl (by kernel_rfl) (by kernel_rfl) (by kernel_rfl) (by kernel_rfl) (fun _ _ _ h => h) (Or.inl ⟨by rfl, ?yT5⟩) hHeld ?rT5
 case yT5 => (intro w' hSw; (try dsimp only at hSw); go_simp; try with_reducible rfl)
 try simp only [Act.put, sL]
 refine' wpAnyK_takeL (i := 5) (v := _) rfl (by kernel_rfl) (by kernel_rfl) (by kernel_rfl) (by kernel_rfl) (fun _ _ _ h => h) (Or.inl ⟨by rfl, ?yT6⟩) hHeld ?rT6
 case yT6 => (intro w' hSw; (try dsimp only at hSw); go_simp; try with_reducible rfl)
 try simp only [Act.put, sL]
 refine' wpAnyK_takeL (i := 6) (v := _) rfl (by kernel_rfl) (by kernel_rfl) (by kernel_rfl) (by kernel_rfl) (fun _ _ _ h => h) (Or.inl ⟨by rfl, ?yT7⟩) hHeld ?rT7
 case yT7 => (intro w' hSw; (try dsimp only at hSw); go_simp; try with_reducible rfl)
 try simp only [Act.put, sL]
 refine wpAnyK_oneL (i := 7) rfl (by kernel_rfl) (fun K hK => ?_)
 obtain ⟨⟨r0, r1⟩, rf⟩ := id hR2
 obtain ⟨⟨s0, s1⟩, sf⟩ := id hS2
 obtain ⟨⟨t0, t1⟩, tf⟩ := id hT2
 go_simp
 (try go_wp2_with fail)
 refine hK.out _ _ (fun _ => ⟨cput (cput x0 n1 _) n1 _, cput (cput x1 n1 _) n1 _, cput (cput hc0 n3 _) n3 _, cput (cput hc1 n3 _) n3 _, cput (cput hc2 n3 _) n3 _, cput (cput hc3 n3 _) n3 _⟩) ?_
 clear hK K
 try simp only [Act.put, sL]
 refine wpAnyK_oneL (i := 8) rfl (by kernel_rfl) (fun K hK => ?_)
 go_simp
 (try go_wp2_with fail)
 refine hK.out _ _ (fun _ => ⟨cput (cput (cput (cput x0 n1 _) n1 _) n2 _) n2 _, cput (cput (cput (cput x1 n1 _) n1 _) n2 _) n2 _, cput (cput (cput (cput hc0 n3 _) n3 _) n4 _) n4 _, cput (cput (cput (cput hc1 n3 _) n3 _) n4 _) n4 _, cput (cput (cput (cput hc2 n3 _) n3 _) n4 _) n4 _, cput (cput (cput (cput hc3 n3 _) n3 _) n4 _) n4 _⟩) ?_
 clear hK K
 try simp only [Act.put, sL]
 refine wpAnyK_oneL (i := 9) rfl (by kernel_rfl) (fun K hK => ?_)
 go_simp
 (try go_wp2_with fail)
 refine hK.out _ _ (fun h => absurd h (by decide)) ?_
 clear hK K
 try simp only [Act.put, sL]
 refine wpAnyK_done (by kernel_rfl) ?_ _
 go_wp2_with fail
 refine bodyPost_ret (v := .tuple #[.agg #[.int .i64 m, .slice o tt.length c], .agg #[.int .i64 m1, .slice o1 l1.length c1], .agg #[.int .i64 m2, .slice o2 l2.length c2]]) (by simp [results, Tryz.results12, go_sem, r0, r1, s0, s1, t0, t1]) rfl ⟨m, .slice o tt.length c, tt, m1, .slice o1 l1.length c1, l1, m2, .slice o2 l2.length c2, l2, rfl, ?_, ?_, ?_, ?_⟩
 ·exact (((((((hA2.put (.inl (by omega)) _ _).put (.inl (by omega)) _ _).put (.inl (by omega)) _ _).put (.inl (by omega)) _ _).put (.inl (by omega)) _ _).put (.inl (by omega)) _ _).below ((Below.refl _ _).drew)).now
 ·exact (((((((hJ1.put (.inl (by omega)) _ _).put (.inl (by omega)) _ _).put (.inl (by omega)) _ _).put (.inl (by omega)) _ _).put (.inl (by omega)) _ _).put (.inl (by omega)) _ _).below ((Below.refl _ _).drew)).now
 ·exact (((((((hJ2.put (.inl (by omega)) _ _).put (.inl (by omega)) _ _).put (.inl (by omega)) _ _).put (.inl (by omega)) _ _).put (.inl (by omega)) _ _).put (.inl (by omega)) _ _).below ((Below.refl _ _).drew)).now
 ·exact Below.drew (below_put (below_put (below_put (below_put (below_put (below_put hb2 (by omega) _) (by omega) _) (by omega) _) (by omega) _) (by omega) _) (by omega) _)
end Go.Proofs.YtfpphfjlpgefaaaGreat
namespace Go.Proofs.YtfpphfjlpgefaaaGreat
open Go.RowKit

def CvR (m : Int) (N : Nat) (w w' : World) (B n b : Nat) (e : Ending) : Prop := ∃ u xs, e = .returned (.agg #[.int .i64 m, u]) ∧ OwI w' w.heap.size u xs ∧ (xs.length = N ∧ xs[0]? = some 0 ∧ ∀ y ∈ xs, 0 ≤ y ∧ y < m) ∧ DW B n b w w'

theorem curve9_d (B n b : Nat) (m : Int) (o : Option Addr) (N c : Nat) (w : World) (hs : Src w B n b) (hm : 2 ≤ m) (hN1 : 2 ≤ N) (hN2 : N ≤ 100) :
  Calls Tryz.prog 51 #[.pointer (some ⟨b, 0, none⟩), .agg #[.int .i64 m, .slice o N c]] w fun e w' => CvR m N w w' B n b e := by
 have hlt := hs.lt
 go_enter Tryz.func51, Tryz.ntmps51
 go_wp2_with fail
 obtain ⟨T, hT⟩ : ∃ T, w.heap.size + 2 = T := ⟨_, rfl⟩
 have hT' : w.heap.size + 1 + 1 = T := hT
 simp only [hT']
 have hX0 := (RB2.mk1 w (.int .i64 m) (.slice o N c) 26).below (w' := ((((w.alloc (.cells #[.int .i64 m, .slice o N c] 26)).alloc (.cells #[.int .i64 0, .slice none 0 0] 34)).alloc (.cells #[.int .i64 0, .int .i64 1] 2)).alloc (.cells #[.int .i64 m, .slice (some ⟨T, 0, none⟩) 2 2] 34))) bZ (nl _)
 have hR0 := (RB2.mk2 w (.cells #[.int .i64 m, .slice o N c] 26) (.int .i64 0) (.slice none 0 0) 34).below (w' := ((((w.alloc (.cells #[.int .i64 m, .slice o N c] 26)).alloc (.cells #[.int .i64 0, .slice none 0 0] 34)).alloc (.cells #[.int .i64 0, .int .i64 1] 2)).alloc (.cells #[.int .i64 m, .slice (some ⟨T, 0, none⟩) 2 2] 34))) bZ (nl _)
 have hC0 : OwI ((((w.alloc (.cells #[.int .i64 m, .slice o N c] 26)).alloc (.cells #[.int .i64 0, .slice none 0 0] 34)).alloc (.cells #[.int .i64 0, .int .i64 1] 2)).alloc (.cells #[.int .i64 m, .slice (some ⟨T, 0, none⟩) 2 2] 34)) T (.slice (some ⟨T, 0, none⟩) 2 2) [0, 1] := by
  have h := (OwI.lit ((w.alloc (.cells #[.int .i64 m, .slice o N c] 26)).alloc (.cells #[.int .i64 0, .slice none 0 0] 34)) [0, 1] (by decide)).below (w' := ((((w.alloc (.cells #[.int .i64 m, .slice o N c] 26)).alloc (.cells #[.int .i64 0, .slice none 0 0] 34)).alloc (.cells #[.int .i64 0, .int .i64 1] 2)).alloc (.cells #[.int .i64 m, .slice (some ⟨T, 0, none⟩) 2 2] 34))) bZ
  rw [show ((w.alloc (.cells #[.int .i64 m, .slice o N c] 26)).alloc (.cells #[.int .i64 0, .slice none 0 0] 34)).heap.size = T by simp [← hT]] at h
  exact h
 have hS0 : RB2 ((((w.alloc (.cells #[.int .i64 m, .slice o N c] 26)).alloc (.cells #[.int .i64 0, .slice none 0 0] 34)).alloc (.cells #[.int .i64 0, .int .i64 1] 2)).alloc (.cells #[.int .i64 m, .slice (some ⟨T, 0, none⟩) 2 2] 34)) (T + 1) (.int .i64 m) (.slice (some ⟨T, 0, none⟩) 2 2) := by
  have h := RB2.mk1 (((w.alloc (.cells #[.int .i64 m, .slice o N c] 26)).alloc (.cells #[.int .i64 0, .slice none 0 0] 34)).alloc (.cells #[.int .i64 0, .int .i64 1] 2)) (.int .i64 m) (.slice (some ⟨T, 0, none⟩) 2 2) 34
  rw [show (((w.alloc (.cells #[.int .i64 m, .slice o N c] 26)).alloc (.cells #[.int .i64 0, .slice none 0 0] 34)).alloc (.cells #[.int .i64 0, .int .i64 1] 2)).heap.size = T + 1 by simp [← hT]] at h
  exact h
 have hd0 := (DW.refl hs).below (w2 := ((((w.alloc (.cells #[.int .i64 m, .slice o N c] 26)).alloc (.cells #[.int .i64 0, .slice none 0 0] 34)).alloc (.cells #[.int .i64 0, .int .i64 1] 2)).alloc (.cells #[.int .i64 m, .slice (some ⟨T, 0, none⟩) 2 2] 34))) bZ
 clear hT'
 generalize ((((w.alloc (.cells #[.int .i64 m, .slice o N c] 26)).alloc (.cells #[.int .i64 0, .slice none 0 0] 34)).alloc (.cells #[.int .i64 0, .int .i64 1] 2)).alloc (.cells #[.int .i64 m, .slice (some ⟨T, 0, none⟩) 2 2] 34)) = w4 at hX0 hR0 hC0 hS0 hd0 ⊢
 have hlS0 := hS0.1.lt
 go_wp2_with fail
 go_loopw [6] (fun iv wr => ∃ (i : Nat) (xs : List Int) (gc cc : Nat), (2 ≤ i ∧ i ≤ N) ∧ iv = .int .i64 i ∧ Hid (xs.length = i ∧ xs[0]? = some 0 ∧ ∀ y ∈ xs, 0 ≤ y ∧ y < m) ∧ gc ≠ T + 1 ∧ OwI wr T (.slice (some ⟨gc, 0, none⟩) i cc) xs ∧ RB2 wr (T + 1) (.int .i64 m) (.slice (some ⟨gc, 0, none⟩) i cc) ∧ RB2 wr w.heap.size (.int .i64 m) (.slice o N c) ∧ RB2 wr (w.heap.size + 1) (.int .i64 0) (.slice none 0 0) ∧ DW B n b w wr) (fun iv _ => N - (intOf iv).toNat)
 case atStart => exact ⟨2, [0, 1], T, 2, by omega, rfl, Lib.hid ⟨rfl, rfl, fun y hy => by simp at hy; omega⟩, by omega, hC0, hS0, hX0, hR0, hd0⟩
 case round =>
  clear hC0 hS0 hX0 hR0 hd0
  obtain ⟨i, xs, gc, cc, ⟨hi1, hi2⟩, rfl, HL, hgc, hC, hS, hX, hR, hd⟩ := hrel
  have hgcl := hC.lt gc rfl
  have hlS := hS.1.lt
  have hxl := HL.out.1
  have HXL := Lib.hid hxl
  clear hxl
  by_cases hiq : i < N
  ·have j0 : (i : Int) < (N : Int) := by omega
   obtain ⟨⟨x0, x1⟩, xf⟩ := id hX
   obtain ⟨⟨s0, s1⟩, sf⟩ := id hS
   have n1 : w.heap.size ≠ T + 1 := by omega
   go_wp2_with fail
   have hd0 : Below wr.heap.size wr wr.drew := (Below.refl _ _).drew
   have hsd0 := hd0.size
   refine wp_region_K (S := fun w' => w'.cell? ⟨w.heap.size, 0, none⟩ = some (.int .i64 m) ∧ w'.cell? ⟨T + 1, 1, none⟩ = some (.slice (some ⟨gc, 0, none⟩) i cc)) [7, 9] (by kernel_rfl) ?_
   have hHeld : (fun w' : World => w'.cell? ⟨w.heap.size, 0, none⟩ = some (.int .i64 m) ∧ w'.cell? ⟨T + 1, 1, none⟩ = some (.slice (some ⟨gc, 0, none⟩) i cc)) wr.drew := by go_keep
   refine' wpAnyK_takeL (i := 0) (v := _) rfl (by kernel_rfl) (by kernel_rfl) (by kernel_rfl) (by kernel_rfl) (fun _ _ _ h => h) (Or.inl ⟨by rfl, ?yT1⟩) hHeld ?rT1
   case yT1 => (intro w' hSw; (try dsimp only at hSw); go_simp; try with_reducible rfl)
   try simp only [Act.put, sL]
   refine' wpAnyK_takeL (i := 1) (v := _) rfl (by kernel_rfl) (by kernel_rfl) (by kernel_rfl) (by kernel_rfl) (fun _ _ _ h => h) (Or.inl ⟨by rfl, ?yT2⟩) hHeld ?rT2
   case yT2 => (intro w' hSw; (try dsimp only at hSw); go_simp; try with_reducible rfl)
   try simp only [Act.put, sL]
   refine' wpAnyK_takeL (i := 2) (v := _) rfl (by kernel_rfl) (by kernel_rfl) (by kernel_rfl) (by kernel_rfl) (fun _ _ _ h => h) (Or.inl ⟨by rfl, ?yT3⟩) hHeld ?rT3
   case yT3 => (intro w' hSw; (try dsimp only at hSw); go_simp; try with_reducible rfl)
   try simp only [Act.put, sL]
   refine' wpAnyK_takeL (i := 3) (v := _) rfl (by kernel_rfl) (by kernel_rfl) (by kernel_rfl) (by kernel_rfl) (fun _ _ _ h => h) (Or.inl ⟨by rfl, ?yT4⟩) hHeld ?rT4
   case yT4 => (intro w' hSw; (try dsimp only at hSw); go_simp; try with_reducible rfl)
   try simp only [Act.put, sL]
   refine' wpAnyK_takeL (i := 4) (v := _) rfl (by kernel_rfl) (by kernel_rfl) (by kernel_rfl) (by kernel_rfl) (fun _ _ _ h => h) (Or.inl ⟨by rfl, ?yT5⟩) hHeld ?rT5
   case yT5 => (intro w' hSw; (try dsimp only at hSw); go_simp; try with_reducible rfl)
   try simp only [Act.put, sL]
   refine wpAnyK_oneL (i := 5) rfl (by kernel_rfl) (fun K hK => ?_)
   go_simp
   go_at_call 52
   refine (dice_d B n b m _ hd.drew.src).mono ?_
   rintro e w5 ⟨y, rfl, y0, y1, y2, hd5, hz5⟩
   have y1 := y1 (by omega)
   have hX5 := (show RB2 wr.drew _ _ _ from hX).dw hd5 (by omega)
   have hS5 := (show RB2 wr.drew _ _ _ from hS).dw hd5 (by omega)
   have hR5 := (show RB2 wr.drew _ _ _ from hR).dw hd5 (by omega)
   have hC5 := (show OwI wr.drew _ _ _ from hC).dw hd5 (by omega)
   have hd5 := hd.drew.trans hd5
   have hzw5 : w.heap.size ≤ w5.heap.size := hd5.size
   have hl5 := hS5.1.lt
   clear y2 hz5 hHeld x0 x1 xf s0 s1 sf hX hS hR hC hd
   obtain ⟨⟨x0, x1⟩, xf⟩ := id hX5
   obtain ⟨⟨s0, s1⟩, sf⟩ := id hS5
   go_wp2_with fail
   have hHeld : (fun w' : World => w'.cell? ⟨w.heap.size, 0, none⟩ = some (.int .i64 m) ∧ w'.cell? ⟨T + 1, 1, none⟩ = some (.slice (some ⟨gc, 0, none⟩) i cc)) w5 := by go_keep
   refine hK.out _ _ (fun _ => hHeld) ?_
   clear hK K
   try simp only [Act.put, sL]
   refine wpAnyK_oneL (i := 6) rfl (by kernel_rfl) (fun K hK => ?_)
   go_simp
   obtain ⟨wl, hwl⟩ : ∃ x : World, x = w5.alloc (.cells #[.int .i64 y] 2) := ⟨_, rfl⟩
   have hbl : Below w5.heap.size w5 wl := by rw [hwl]; exact bZ
   have hYl : RdI wl (.slice (some ⟨w5.heap.size, 0, none⟩) 1 1) [y] := by rw [hwl]; exact (OwI.lit w5 [y] (by simp [maxLen])).rd
   have hzl : wl.heap.size = w5.heap.size + 1 := by rw [hwl]; simp
   have hX6 := hX5.below hbl (nl _)
   have hS6 := hS5.below hbl (nl _)
   have hR6 := hR5.below hbl (nl _)
   have hC6 := hC5.below hbl
   have hd6 := hd5.below hbl
   clear hX5 hS5 hR5 hC5 hd5 hbl x0 x1 xf s0 s1 sf hHeld
   rw [← hwl]
   clear hwl
   obtain ⟨⟨x0, x1⟩, xf⟩ := id hX6
   obtain ⟨⟨s0, s1⟩, sf⟩ := id hS6
   have hHeld : (fun w' : World => w'.cell? ⟨w.heap.size, 0, none⟩ = some (.int .i64 m) ∧ w'.cell? ⟨T + 1, 1, none⟩ = some (.slice (some ⟨gc, 0, none⟩) i cc)) wl := by go_keep
   refine hK.out _ _ (fun _ => hHeld) ?_
   clear hK K
   try simp only [Act.put, sL]
   refine wpAnyK_oneL (i := 7) rfl (by kernel_rfl) (fun K hK => ?_)
   refine stR wl rfl _ _ rfl T (.slice (some ⟨gc, 0, none⟩) i cc) xs rfl hC6 ⟨w5.heap.size, 0, none⟩ 1 1 [y] rfl hYl (by have := HXL.out; simp; omega) (by omega) ?_
   intro o7 c7 w7 hC7 hgr hb7
   rw [show (xs ++ [y]).length = i + 1 by simp [HXL.out]] at hC7 ⊢
   have hne7 : ∀ j, (Value.slice (some ⟨gc, 0, none⟩) i cc).ownBlock = some j → gc = j := fun j hj => by simpa [Value.ownBlock] using hj
   have hX7 := hX6.grown hgr (fun e => by have := hne7 _ e.symm; omega)
   have hS7 := hS6.grown hgr (fun e => by have := hne7 _ e.symm; omega)
   have hR7 := hR6.grown hgr (fun e => by have := hne7 _ e.symm; omega)
   have hd7 := hd6.grown hgr (fun j hj => by have := hne7 _ hj; omega)
   clear hX6 hS6 hR6 hC6 hd6 hgr hb7 hne7 hYl x0 x1 xf s0 s1 sf hHeld
   obtain ⟨⟨x0, x1⟩, xf⟩ := id hX7
   obtain ⟨⟨s0, s1⟩, sf⟩ := id hS7
   have hHeld : (fun w' : World => w'.cell? ⟨w.heap.size, 0, none⟩ = some (.int .i64 m) ∧ w'.cell? ⟨T + 1, 1, none⟩ = some (.slice (some ⟨gc, 0, none⟩) i cc)) w7 := by go_keep
   refine hK.out _ _ (fun h => absurd h (by decide)) ?_
   clear hK K
   try simp only [Act.put, sL]
   refine' wpAnyK_takeL (i := 8) (v := _) rfl (by kernel_rfl) (by kernel_rfl) (by kernel_rfl) (by kernel_rfl) (fun _ _ _ h => h) (Or.inl ⟨by rfl, ?yT6⟩) hHeld ?rT6
   case yT6 => (intro w' hSw; (try dsimp only at hSw); go_simp; try with_reducible rfl)
   try simp only [Act.put, sL]
   refine wpAnyK_oneL (i := 9) rfl (by kernel_rfl) (fun K hK => ?_)
   go_simp
   (try go_wp2_with fail)
   refine hK.out _ _ (fun h => absurd h (by decide)) ?_
   clear hK K
   try simp only [Act.put, sL]
   refine wpAnyK_done (by kernel_rfl) ?_ _
   go_wp2_with fail
   clear x0 x1 xf
   obtain ⟨g7, rfl, hg7, hg7'⟩ := hC7.row (by omega)
   have hg7n := own_ne hC7 (by have := HXL.out; simp; omega) hS7.1
   have HL7 := Lib.hid (show (xs ++ [y]).length = i + 1 ∧ (xs ++ [y])[0]? = some 0 ∧ ∀ z ∈ xs ++ [y], 0 ≤ z ∧ z < m from ⟨by simp [HXL.out], by rw [List.getElem?_append_left (by have := HXL.out; omega)]; exact HL.out.2.1, fun z hz => by
    rcases List.mem_append.1 hz with h | h
    ·exact HL.out.2.2 z h
    ·obtain rfl : z = y := by simpa using h
     exact ⟨y0, y1⟩⟩)
   have hC8 := hC7.ne (b := T + 1) (k := 1) (fun j hj => by have e : g7 = j := (by simpa [Value.ownBlock] using hj); omega) (.slice (some ⟨g7, 0, none⟩) (i + 1) c7)
   have hS8 := hS7.put1 (.slice (some ⟨g7, 0, none⟩) (i + 1) c7)
   have hX8 := hX7.off (g := T + 1) (k := 1) (by omega) (.slice (some ⟨g7, 0, none⟩) (i + 1) c7)
   have hR8 := hR7.off (g := T + 1) (k := 1) (by omega) (.slice (some ⟨g7, 0, none⟩) (i + 1) c7)
   have hd8 := hd7.put (g := T + 1) (by omega) 1 (.slice (some ⟨g7, 0, none⟩) (i + 1) c7)
   go_wp2
   exact ⟨⟨i + 1, xs ++ [y], g7, c7, by omega, by go_num, HL7, hg7n, hC8, hS8, hX8, hR8, hd8⟩, by simp [intOf]; omega⟩
  ·obtain rfl : i = N := by omega
   have j0 : ¬ (i : Int) < (i : Int) := by omega
   obtain ⟨⟨x0, x1⟩, xf⟩ := id hX
   obtain ⟨⟨s0, s1⟩, sf⟩ := id hS
   obtain ⟨⟨r0, r1⟩, rf⟩ := id hR
   have n1 : w.heap.size + 1 ≠ T + 1 := by omega
   go_wp2_with fail
   refine bodyPost_ret (v := .agg #[.int .i64 m, .slice (some ⟨gc, 0, none⟩) i cc]) (by simp [results, Tryz.results51, go_sem, r0, r1]) rfl ⟨_, xs, rfl, ?_, HL.out, ?_⟩
   ·exact ((hC.ne (fun j hj => by have e : gc = j := (by simpa [Value.ownBlock] using hj); omega) _).ne (fun j hj => by have e : gc = j := (by simpa [Value.ownBlock] using hj); omega) _).mono (by omega)
   ·exact (hd.put (by omega) _ _).put (by omega) _ _

theorem any9_d (B n b : Nat) (m : Int) (o : Option Addr) (N c : Nat) (w : World) (hs : Src w B n b) (hm : 2 ≤ m) (hN1 : 2 ≤ N) (hN2 : N ≤ 100) :
  Calls Tryz.prog 18 #[.pointer (some ⟨b, 0, none⟩), .agg #[.int .i64 m, .slice o N c]] w fun e w' => CvR m N w w' B n b e := by
 have hlt := hs.lt
 go_enter Tryz.func18, Tryz.ntmps18
 go_wp2_with fail
 have hX0 := (RB2.mk1 w (.int .i64 m) (.slice o N c) 26).below (w' := ((w.alloc (.cells #[.int .i64 m, .slice o N c] 26)).alloc (.cells #[.int .i64 0, .slice none 0 0] 34))) bZ (nl _)
 have hR0 := RB2.mk2 w (.cells #[.int .i64 m, .slice o N c] 26) (.int .i64 0) (.slice none 0 0) 34
 have hd0 := (DW.refl hs).below (w2 := ((w.alloc (.cells #[.int .i64 m, .slice o N c] 26)).alloc (.cells #[.int .i64 0, .slice none 0 0] 34))) bZ
 generalize ((w.alloc (.cells #[.int .i64 m, .slice o N c] 26)).alloc (.cells #[.int .i64 0, .slice none 0 0] 34)) = w2 at hX0 hR0 hd0 ⊢
 have hlR0 := hR0.1.lt
 obtain ⟨⟨x0, x1⟩, xf⟩ := id hX0
 go_wp2_with fail
 refine (curve9_d B n b m o N c _ hd0.src hm hN1 hN2).mono ?_
 rintro e w3 ⟨u, xs, rfl, hC3, HX, hd3⟩
 have HX := Lib.hid HX
 obtain ⟨g, c1, rfl⟩ := row_of hC3 HX.out.1 (by omega)
 have hX3 := hX0.dw hd3 (by omega)
 have hR3 := hR0.dw hd3 (by omega)
 have hz3 := hd3.size
 have hd3 := hd0.trans hd3
 clear hX0 hR0 hd0 x0 x1 xf
 go_wp2_with fail
 have hS4 := RB2.mk1 w3 (.int .i64 m) (.slice (some ⟨g, 0, none⟩) N c1) 34
 have hba : Below w3.heap.size w3 (w3.alloc (.cells #[.int .i64 m, .slice (some ⟨g, 0, none⟩) N c1] 34)) := bZ
 have hX4 := hX3.below hba (nl _)
 have hR4 := hR3.below hba (nl _)
 have hgl := hC3.lt g rfl
 have hC4 := hC3.below hba
 have hd4 := hd3.below hba
 clear hX3 hR3 hC3 hd3 hba
 obtain ⟨p, hp⟩ : ∃ p, w3.heap.size = p := ⟨_, rfl⟩
 rw [hp] at hS4 hgl
 simp only [hp]
 generalize w3.alloc (.cells #[.int .i64 m, .slice (some ⟨g, 0, none⟩) N c1] 34) = w4 at hX4 hR4 hS4 hC4 hd4 ⊢
 rw [hp] at hz3
 clear hp
 have hlS4 := hS4.1.lt
 obtain ⟨⟨x0, x1⟩, xf⟩ := id hX4
 obtain ⟨⟨s0, s1⟩, sf⟩ := id hS4
 have i1 : (1 : Int) < (N : Int) := by omega
 go_wp2_with fail
 have hd0 : Below w4.heap.size w4 w4.drew := (Below.refl _ _).drew
 have hsd0 := hd0.size
 refine wp_region_K (S := fun w' => w'.cell? ⟨w.heap.size, 0, none⟩ = some (.int .i64 m) ∧ w'.cell? ⟨p, 1, none⟩ = some (.slice (some ⟨g, 0, none⟩) N c1)) [7] (by kernel_rfl) ?_
 have hHeld : (fun w' : World => w'.cell? ⟨w.heap.size, 0, none⟩ = some (.int .i64 m) ∧ w'.cell? ⟨p, 1, none⟩ = some (.slice (some ⟨g, 0, none⟩) N c1)) w4.drew := by go_keep
 refine' wpAnyK_takeL (i := 0) (v := _) rfl (by kernel_rfl) (by kernel_rfl) (by kernel_rfl) (by kernel_rfl) (fun _ _ _ h => h) (Or.inl ⟨by rfl, ?yT7⟩) hHeld ?rT7
 case yT7 => (intro w' hSw; (try dsimp only at hSw); go_simp; try with_reducible rfl)
 try simp only [Act.put, sL]
 refine' wpAnyK_takeL (i := 1) (v := _) rfl (by kernel_rfl) (by kernel_rfl) (by kernel_rfl) (by kernel_rfl) (fun _ _ _ h => h) (Or.inl ⟨by rfl, ?yT8⟩) hHeld ?rT8
 case yT8 => (intro w' hSw; (try dsimp only at hSw); go_simp; try with_reducible rfl)
 try simp only [Act.put, sL]
 refine' wpAnyK_takeL (i := 2) (v := _) rfl (by kernel_rfl) (by kernel_rfl) (by kernel_rfl) (by kernel_rfl) (fun _ _ _ h => h) (Or.inl ⟨by rfl, ?yT9⟩) hHeld ?rT9
 case yT9 => (intro w' hSw; (try dsimp only at hSw); go_simp; try with_reducible rfl)
 try simp only [Act.put, sL]
 refine' wpAnyK_takeL (i := 3) (v := _) rfl (by kernel_rfl) (by kernel_rfl) (by kernel_rfl) (by kernel_rfl) (fun _ _ _ h => h) (Or.inl ⟨by rfl, ?yT10⟩) hHeld ?rT10
 case yT10 => (intro w' hSw; (try dsimp only at hSw); go_simp; try with_reducible rfl)
 try simp only [Act.put, sL]
 refine' wpAnyK_takeL (i := 4) (v := _) rfl (by kernel_rfl) (by kernel_rfl) (by kernel_rfl) (by kernel_rfl) (fun _ _ _ h => h) (Or.inl ⟨by rfl, ?yT11⟩) hHeld ?rT11
 case yT11 => (intro w' hSw; (try dsimp only at hSw); go_simp; try with_reducible rfl)
 try simp only [Act.put, sL]
 refine wpAnyK_oneL (i := 5) rfl (by kernel_rfl) (fun K hK => ?_)
 go_simp
 go_at_call 52
 refine (dice_d B n b m _ hd4.drew.src).mono ?_
 rintro e w5 ⟨y, rfl, y0, y1, y2, hd5, hz5⟩
 have y1 := y1 (by omega)
 have hX5 := (show RB2 w4.drew _ _ _ from hX4).dw hd5 (by omega)
 have hS5 := (show RB2 w4.drew _ _ _ from hS4).dw hd5 (by omega)
 have hR5 := (show RB2 w4.drew _ _ _ from hR4).dw hd5 (by omega)
 have hC5 := (show OwI w4.drew _ _ _ from hC4).dw hd5 (by omega)
 have hd5 := hd4.drew.trans hd5
 have hzw5 : w.heap.size ≤ w5.heap.size := hd5.size
 have hl5 := hS5.1.lt
 clear y2 hz5 hHeld x0 x1 xf s0 s1 sf hX4 hS4 hR4 hC4 hd4
 obtain ⟨⟨x0, x1⟩, xf⟩ := id hX5
 obtain ⟨⟨s0, s1⟩, sf⟩ := id hS5
 go_wp2_with fail
 have hHeld : (fun w' : World => w'.cell? ⟨w.heap.size, 0, none⟩ = some (.int .i64 m) ∧ w'.cell? ⟨p, 1, none⟩ = some (.slice (some ⟨g, 0, none⟩) N c1)) w5 := by go_keep
 refine hK.out _ _ (fun _ => hHeld) ?_
 clear hK K
 try simp only [Act.put, sL]
 refine' wpAnyK_takeL (i := 6) (v := _) rfl (by kernel_rfl) (by kernel_rfl) (by kernel_rfl) (by kernel_rfl) (fun _ _ _ h => h) (Or.inl ⟨by rfl, ?yT12⟩) hHeld ?rT12
 case yT12 => (intro w' hSw; (try dsimp only at hSw); go_simp; try with_reducible rfl)
 try simp only [Act.put, sL]
 refine wpAnyK_oneL (i := 7) rfl (by kernel_rfl) (fun K hK => ?_)
 have hc1 := hC5.cell (k := 1) (some_at0 (xs := xs) (k := 1) (by have := HX.out.1; omega))
 have hf1 := hC5.fz 1
 obtain ⟨⟨r0, r1⟩, rf⟩ := id hR5
 have n2 : w.heap.size + 1 ≠ g := by omega
 have n3 : p ≠ g := by omega
 go_simp
 (try go_wp2_with fail)
 refine hK.out _ _ (fun h => absurd h (by decide)) ?_
 clear hK K
 try simp only [Act.put, sL]
 refine wpAnyK_done (by kernel_rfl) ?_ _
 go_wp2_with fail
 have hC6 := hC5.put 1 y
 have hS6 := hS5.off (g := g) (k := 1) (by omega) (.int .i64 y)
 have hR6 := hR5.off (g := g) (k := 1) (by omega) (.int .i64 y)
 have hd6 := hd5.put (g := g) (by omega) 1 (.int .i64 y)
 have HY := Lib.hid (show (xs.set 1 y).length = N ∧ (xs.set 1 y)[0]? = some 0 ∧ ∀ z ∈ xs.set 1 y, 0 ≤ z ∧ z < m from ⟨by rw [List.length_set]; exact HX.out.1, by rw [List.getElem?_set_ne (by decide)]; exact HX.out.2.1, fun z hz => by
  rcases List.mem_or_eq_of_mem_set hz with h | rfl
  ·exact HX.out.2.2 z h
  ·exact ⟨y0, y1⟩⟩)
 refine bodyPost_ret (v := .agg #[.int .i64 m, .slice (some ⟨g, 0, none⟩) N c1]) (by simp [results, Tryz.results18, go_sem, r0, r1]) rfl ⟨_, xs.set 1 y, rfl, ?_, HY.out, ?_⟩
 ·exact ((hC6.ne (fun j hj => by have e : g = j := (by simpa [Value.ownBlock] using hj); omega) _).ne (fun j hj => by have e : g = j := (by simpa [Value.ownBlock] using hj); omega) _).mono (by omega)
 ·exact (hd6.put (by omega) _ _).put (by omega) _ _
end Go.Proofs.YtfpphfjlpgefaaaGreat
namespace Go.Proofs.YtfpphfjlpgefaaaGreat
open Go.RowKit
open Go.ChangeShapes Go.WideShapes Go.ChangeAt Go.Joins

theorem Tryz.own : ownKnob Tryz.prog.godebug = none := by kernel_rfl
theorem Tryz.laidOut : laidOutB Tryz.prog = true := by kernel_rfl
theorem Tryz.cells8 : Tryz.prog.cellsOf 5 = 1 := by kernel_rfl

theorem trodAll_below {H : Type} {enc : TypeId × Value → H} {P : Program} {W W' : World} (hl : laidOutB P = true) :
  ∀ {ts : List TypeId} {vs : List Value} {ds : List (DataW H)} {ps : List MemPlace}, (ts.all fun t => P.readableRec t && decide (t < P.types.size)) = true →
    DataW.TrodAll enc P W 0 (fun _ => true) true ts vs ds ps → Below W.heap.size W W' → (∀ x ∈ ps, x.block < W.heap.size) → DataW.TrodAll enc P W' 0 (fun b => decide (b < W.heap.size)) true ts vs ds ps
 | [], [], [], _, _, h, _, _ => h
 | t :: ts, _ :: _, _ :: _, _, hT, ⟨p, q, h1, h2, e⟩, hb, hs => by
   simp only [List.all_cons, Bool.and_eq_true, decide_eq_true_eq] at hT
   exact ⟨p, q, Below.trod hl hT.1.1 hT.1.2 h1 hb (fun x hx => hs x (by rw [e]; exact List.mem_append_left _ hx)), trodAll_below hl hT.2 h2 hb (fun x hx => hs x (by rw [e]; exact List.mem_append_right _ hx)), e⟩

theorem rdB_of_trod {H : Type} {enc : TypeId × Value → H} {W : World} {sp : Nat → Bool} {b0 : Nat} {v : Value} {d : DataW H} {ps : List MemPlace}
  (hval : Value.okWide Tryz.prog W .any b0 22 v) (h : DataW.Trod enc Tryz.prog W 0 sp true 22 v d ps) : ∃ n, RdB W W.heap.size n v := by
 obtain ⟨a1, len, cap, rfl⟩ := okWide_slice Tryz.underlying22 hval
 obtain ⟨fuel, hf⟩ := h
 rcases open_ints Tryz.underlying22 Tryz.underlying5 Tryz.cells8 hf with ⟨hcs, hx⟩ | ⟨a, len', cap', zs, hcs, _, hl, hm, hz, hx, hcell, hwz⟩
 ·simp [Value.cells] at hcs
  obtain ⟨rfl, rfl, rfl⟩ := hcs
  exact ⟨0, none, 0, rfl, ⟨Nat.zero_le _, Nat.le_refl _, fun _ => rfl⟩, fun k hk => by omega⟩
 ·simp [Value.cells] at hcs
  obtain ⟨rfl, rfl, rfl⟩ := hcs
  have hlz : len ≤ zs.length := by rw [hz]; split <;> omega
  refine ⟨len, some a, cap, rfl, ⟨by omega, hl, fun h => by cases h⟩, fun k hk => ?_⟩
  obtain ⟨b, off, rfl, hc⟩ := ints_at hcell (by omega)
  have hck := hc k (by omega)
  have hm : zs.getD k 0 ∈ zs := by
   rw [List.getD, List.getElem?_eq_getElem (show k < zs.length by omega)]
   exact List.getElem_mem _
  have := hwz _ hm
  simp [Lit.wf, IntKind.min, IntKind.max, IntKind.bits, IntKind.signed] at this
  rw [← List.getD_eq_getElem?_getD] at this
  exact ⟨b, off, _, World.block_lt_of_cell? _ _ hck, rfl, hck, by omega, by omega⟩
end Go.Proofs.YtfpphfjlpgefaaaGreat
