/- Lemmas. -/
import Derived.Test.YtfpphfjlpgefaaaQAHomG
import Derived.Test.YtfpphfjlpgefaaaQAG5
import Derived.Test.YtfpphfjlpgefaaaQAG3
set_option linter.unusedSimpArgs false
set_option linter.unusedVariables false
namespace Go.Proofs.Ytfpphfjlpgefaaa
open Go.RowKit

structure TR where
  xss : List (List Int)
  code : Int
def allR (m : Int) (t : List (List Int)) (m1 : Int) (s : List (List Int)) (pre : List Int) (most : Nat) : TR :=
  if twoL m t m1 s = 0 then (if largeB m (t.length - pre.length) 1 then ⟨[], 3⟩ else (if pre.length = 2 ∧ homB m 2 (cutT 2 t) (cutT 2 s) pre = false then ⟨[], 0⟩ else ⟨growL m.toNat t.length most (fitG m t s) (t.length - pre.length) pre [], 0⟩)) else ⟨[], twoL m t m1 s⟩

set_option maxHeartbeats 4000000 in
set_option maxRecDepth 100000 in
theorem l06All_c (m : Int) (v : Value) (t : List (List Int)) (m1 : Int) (u : Value) (s : List (List Int)) (va : Value) (pre : List Int) (most : Nat) (w : World) (hv : RdT w v t) (hu : RdT w u s) (ha : RdI w va pre) (h1 : 1 ≤ pre.length) (h2 : pre.length ≤ 2) (h0 : at0 pre 0 = 0) (hx : ∀ x ∈ pre, 0 ≤ x ∧ x < 2) (hm1 : 1 ≤ most) (hm2 : most ≤ 20000) :
    Calls Try.prog 14 #[.agg #[.int .i64 m, v], .agg #[.int .i64 m1, u], va, .int .i64 (most : Int)] w fun e w' => ∃ v', e = .returned (.tuple #[v', .int .i64 (allR m t m1 s pre most).code]) ∧ OwS w' w.heap.size v' (allR m t m1 s pre most).xss ∧ Below w.heap.size w w' := by
  obtain ⟨o, c, rfl, -, -⟩ := id hv
  obtain ⟨o1, c1, rfl, -, -⟩ := id hu
  obtain ⟨oa, ca, rfl, hma, -⟩ := id ha
  by_cases hc : twoL m t m1 s = 0
  · obtain ⟨a1, a2, e1, l1⟩ := twoL_0 hc
    subst e1
    have hp := (lawB_t a1).1
    have hn := pla_n hp
    have hm := pla_m hp
    have HC := Lib.hid hc
    have HT := Lib.hid (show PlaT m1 t.length t from ⟨rfl, pla_row hp⟩)
    have HS := Lib.hid (show PlaT m1 t.length s from ⟨l1, by have := pla_row (lawB_t a2).1; exact this⟩)
    have hu2 : RdT w (.slice o1 t.length c1) s := by rw [l1] at hu; exact hu
    rw [l1]
    have hcc : ((0 : Int) != 0) = false := by simp
    have hR : allR m1 t m1 s pre most = (if largeB m1 (t.length - pre.length) 1 then ⟨[], 3⟩ else (if pre.length = 2 ∧ homB m1 2 (cutT 2 t) (cutT 2 s) pre = false then ⟨[], 0⟩ else ⟨growL m1.toNat t.length most (fitG m1 t s) (t.length - pre.length) pre [], 0⟩)) := by unfold allR; rw [if_pos hc]
    have HR := Lib.hid hR
    clear hc hR a1 a2 hp hu l1
    obtain ⟨lb, hlb⟩ : ∃ lb, largeB m1 (t.length - pre.length) 1 = lb := ⟨_, rfl⟩
    have HLB := Lib.hid hlb
    rw [hlb] at HR
    clear hlb
    go_enter Try.func14, Try.ntmps14
    go_wp2_with fail
    (have X0 := ((RB2.mk1 w  (.int .i64 m1) (.slice o t.length c) 29).1).below (w' := ((w.alloc (.cells #[.int .i64 m1, .slice o t.length c] 29)).alloc (.cells #[.int .i64 m1, .slice o1 t.length c1] 29))) (by (repeat (first | exact bR _ _ | (refine bS ?_ _) | (refine bA ?_ _) | (refine bN ?_ _) | (refine bD ?_)))) (Nat.le_refl _); have Y0 := ((RB2.mk2 w (.cells #[.int .i64 m1, .slice o t.length c] 29) (.int .i64 m1) (.slice o1 t.length c1) 29).1).below (w' := ((w.alloc (.cells #[.int .i64 m1, .slice o t.length c] 29)).alloc (.cells #[.int .i64 m1, .slice o1 t.length c1] 29))) (by (repeat (first | exact bR _ _ | (refine bS ?_ _) | (refine bA ?_ _) | (refine bN ?_ _) | (refine bD ?_)))) (Nat.le_refl _); have B0 : Below w.heap.size w ((w.alloc (.cells #[.int .i64 m1, .slice o t.length c] 29)).alloc (.cells #[.int .i64 m1, .slice o1 t.length c1] 29)) := (by (repeat (first | exact bR _ _ | (refine bS ?_ _) | (refine bA ?_ _) | (refine bN ?_ _) | (refine bD ?_)))); have hv0 := hv.below (w' := ((w.alloc (.cells #[.int .i64 m1, .slice o t.length c] 29)).alloc (.cells #[.int .i64 m1, .slice o1 t.length c1] 29))) (by (repeat (first | exact bR _ _ | (refine bS ?_ _) | (refine bA ?_ _) | (refine bN ?_ _) | (refine bD ?_)))) (Nat.le_refl _); have hu20 := hu2.below (w' := ((w.alloc (.cells #[.int .i64 m1, .slice o t.length c] 29)).alloc (.cells #[.int .i64 m1, .slice o1 t.length c1] 29))) (by (repeat (first | exact bR _ _ | (refine bS ?_ _) | (refine bA ?_ _) | (refine bN ?_ _) | (refine bD ?_)))) (Nat.le_refl _); have ha0 := ha.below (w' := ((w.alloc (.cells #[.int .i64 m1, .slice o t.length c] 29)).alloc (.cells #[.int .i64 m1, .slice o1 t.length c1] 29))) (by (repeat (first | exact bR _ _ | (refine bS ?_ _) | (refine bA ?_ _) | (refine bN ?_ _) | (refine bD ?_)))) (Nat.le_refl _); generalize (w.alloc (.cells #[.int .i64 m1, .slice o t.length c] 29)).alloc (.cells #[.int .i64 m1, .slice o1 t.length c1] 29) = w0 at X0 Y0 B0 hv0 hu20 ha0 ⊢)
    (obtain ⟨gqX0, gqX1⟩ := id X0; obtain ⟨gqY0, gqY1⟩ := id Y0; go_wp2_with fail; refine (l04Two_c m1 m1 _ _ t s _ hv0 hu20).mono ?_; rw [HC.out]; rintro e w1 ⟨rfl, hb⟩; (have X1 := X0.below hb (Nat.le_refl _); have Y1 := Y0.below hb (Nat.le_refl _); have hv1 := hv0.below hb (Nat.le_refl _); have hu21 := hu20.below hb (Nat.le_refl _); have ha1 := ha0.below hb (Nat.le_refl _); have B1 := B0.trans (hb.mono B0.size)); clear gqX0 gqX1 gqY0 gqY1; clear hb)
    obtain ⟨x0, x1⟩ := id X1
    obtain ⟨y0, y1⟩ := id Y1
    have B1s := B1.size
    have e1 : IntKind.i64.wrap ((t.length : Int) - (pre.length : Int)) = (t.length : Int) - (pre.length : Int) := IntWalk.i64_in _ (by omega)
    have e2 : (t.length : Int) - (pre.length : Int) = ((t.length - pre.length : Nat) : Int) := by omega
    cases lb
    · go_wp2_with (go_at_call 28; refine (l06Large_c m1 _ (t.length - pre.length) _ (by omega) (by omega) (by omega) (by omega)).mono ?_; rw [HLB.out]; rintro e w' ⟨rfl, rfl⟩)
      obtain h3 | h3 : pre.length = 1 ∨ pre.length = 2 := by omega
      · have HR2 := Lib.hid (show allR m1 t m1 s pre most = ⟨growL m1.toNat t.length most (fitG m1 t s) (t.length - pre.length) pre [], 0⟩ by rw [HR.out, if_neg (by simp), if_neg (by omega)])
        have hL : ((pre.length : Int) == 2) = false := by simp; omega
        clear h3 x0 x1 y0 y1
        have hd0 : Below w1.heap.size w1 w1.drew := (Below.refl _ _).drew
        have hsd0 := hd0.size
        refine wp_region_K (S := fun w' => True) [] (by kernel_rfl) ?_
        have hHeld : (fun w' : World => True) w1.drew := by trivial
        refine' wpAnyK_takeL (i := 0) (v := _) rfl (by kernel_rfl) (by kernel_rfl) (by kernel_rfl) (by kernel_rfl) (fun _ _ _ h => h) (Or.inl ⟨by rfl, ?yT1⟩) hHeld ?rT1
        case yT1 => (intro w' hSw; (try dsimp only at hSw); go_simp; try with_reducible rfl)
        try simp only [List.getElem_toArray, List.getElem_cons_zero, List.getElem_cons_succ, Act.put, List.setIfInBounds_toArray, List.set_cons_zero, List.set_cons_succ]
        refine' wpAnyK_takeL (i := 1) (v := _) rfl (by kernel_rfl) (by kernel_rfl) (by kernel_rfl) (by kernel_rfl) (fun _ _ _ h => h) (Or.inl ⟨by rfl, ?yT2⟩) hHeld ?rT2
        case yT2 => (intro w' hSw; (try dsimp only at hSw); go_simp; try with_reducible rfl)
        try simp only [List.getElem_toArray, List.getElem_cons_zero, List.getElem_cons_succ, Act.put, List.setIfInBounds_toArray, List.set_cons_zero, List.set_cons_succ]
        refine' wpAnyK_takeL (i := 2) (v := _) rfl (by kernel_rfl) (by kernel_rfl) (by kernel_rfl) (by kernel_rfl) (fun _ _ _ h => h) (Or.inl ⟨by rfl, ?yT3⟩) hHeld ?rT3
        case yT3 => (intro w' hSw; (try dsimp only at hSw); go_simp; try with_reducible rfl)
        try simp only [List.getElem_toArray, List.getElem_cons_zero, List.getElem_cons_succ, Act.put, List.setIfInBounds_toArray, List.set_cons_zero, List.set_cons_succ]
        refine' wpAnyK_takeL (i := 3) (v := _) rfl (by kernel_rfl) (by kernel_rfl) (by kernel_rfl) (by kernel_rfl) (fun _ _ _ h => h) (Or.inl ⟨by rfl, ?yT4⟩) hHeld ?rT4
        case yT4 => (intro w' hSw; (try dsimp only at hSw); go_simp; try with_reducible rfl)
        try simp only [List.getElem_toArray, List.getElem_cons_zero, List.getElem_cons_succ, Act.put, List.setIfInBounds_toArray, List.set_cons_zero, List.set_cons_succ]
        refine' wpAnyK_takeL (i := 4) (v := undef) rfl (by kernel_rfl) (by kernel_rfl) (by kernel_rfl) (by kernel_rfl) (fun _ _ _ h => h) (Or.inr ⟨by rfl, rfl⟩) hHeld ?rT5
        try simp only [List.getElem_toArray, List.getElem_cons_zero, List.getElem_cons_succ, Act.put, List.setIfInBounds_toArray, List.set_cons_zero, List.set_cons_succ]
        refine' wpAnyK_takeL (i := 5) (v := undef) rfl (by kernel_rfl) (by kernel_rfl) (by kernel_rfl) (by kernel_rfl) (fun _ _ _ h => h) (Or.inr ⟨by rfl, rfl⟩) hHeld ?rT6
        try simp only [List.getElem_toArray, List.getElem_cons_zero, List.getElem_cons_succ, Act.put, List.setIfInBounds_toArray, List.set_cons_zero, List.set_cons_succ]
        refine' wpAnyK_takeL (i := 6) (v := undef) rfl (by kernel_rfl) (by kernel_rfl) (by kernel_rfl) (by kernel_rfl) (fun _ _ _ h => h) (Or.inr ⟨by rfl, rfl⟩) hHeld ?rT7
        try simp only [List.getElem_toArray, List.getElem_cons_zero, List.getElem_cons_succ, Act.put, List.setIfInBounds_toArray, List.set_cons_zero, List.set_cons_succ]
        refine' wpAnyK_takeL (i := 7) (v := undef) rfl (by kernel_rfl) (by kernel_rfl) (by kernel_rfl) (by kernel_rfl) (fun _ _ _ h => h) (Or.inr ⟨by rfl, rfl⟩) hHeld ?rT8
        try simp only [List.getElem_toArray, List.getElem_cons_zero, List.getElem_cons_succ, Act.put, List.setIfInBounds_toArray, List.set_cons_zero, List.set_cons_succ]
        refine' wpAnyK_takeL (i := 8) (v := undef) rfl (by kernel_rfl) (by kernel_rfl) (by kernel_rfl) (by kernel_rfl) (fun _ _ _ h => h) (Or.inr ⟨by rfl, rfl⟩) hHeld ?rT9
        try simp only [List.getElem_toArray, List.getElem_cons_zero, List.getElem_cons_succ, Act.put, List.setIfInBounds_toArray, List.set_cons_zero, List.set_cons_succ]
        refine' wpAnyK_takeL (i := 9) (v := undef) rfl (by kernel_rfl) (by kernel_rfl) (by kernel_rfl) (by kernel_rfl) (fun _ _ _ h => h) (Or.inr ⟨by rfl, rfl⟩) hHeld ?rT10
        try simp only [List.getElem_toArray, List.getElem_cons_zero, List.getElem_cons_succ, Act.put, List.setIfInBounds_toArray, List.set_cons_zero, List.set_cons_succ]
        refine' wpAnyK_takeL (i := 10) (v := undef) rfl (by kernel_rfl) (by kernel_rfl) (by kernel_rfl) (by kernel_rfl) (fun _ _ _ h => h) (Or.inr ⟨by rfl, rfl⟩) hHeld ?rT11
        try simp only [List.getElem_toArray, List.getElem_cons_zero, List.getElem_cons_succ, Act.put, List.setIfInBounds_toArray, List.set_cons_zero, List.set_cons_succ]
        refine' wpAnyK_takeL (i := 11) (v := undef) rfl (by kernel_rfl) (by kernel_rfl) (by kernel_rfl) (by kernel_rfl) (fun _ _ _ h => h) (Or.inr ⟨by rfl, rfl⟩) hHeld ?rT12
        try simp only [List.getElem_toArray, List.getElem_cons_zero, List.getElem_cons_succ, Act.put, List.setIfInBounds_toArray, List.set_cons_zero, List.set_cons_succ]
        refine' wpAnyK_takeL (i := 12) (v := undef) rfl (by kernel_rfl) (by kernel_rfl) (by kernel_rfl) (by kernel_rfl) (fun _ _ _ h => h) (Or.inr ⟨by rfl, rfl⟩) hHeld ?rT13
        try simp only [List.getElem_toArray, List.getElem_cons_zero, List.getElem_cons_succ, Act.put, List.setIfInBounds_toArray, List.set_cons_zero, List.set_cons_succ]
        refine' wpAnyK_takeL (i := 13) (v := undef) rfl (by kernel_rfl) (by kernel_rfl) (by kernel_rfl) (by kernel_rfl) (fun _ _ _ h => h) (Or.inr ⟨by rfl, rfl⟩) hHeld ?rT14
        try simp only [List.getElem_toArray, List.getElem_cons_zero, List.getElem_cons_succ, Act.put, List.setIfInBounds_toArray, List.set_cons_zero, List.set_cons_succ]
        refine' wpAnyK_takeL (i := 14) (v := undef) rfl (by kernel_rfl) (by kernel_rfl) (by kernel_rfl) (by kernel_rfl) (fun _ _ _ h => h) (Or.inr ⟨by rfl, rfl⟩) hHeld ?rT15
        try simp only [List.getElem_toArray, List.getElem_cons_zero, List.getElem_cons_succ, Act.put, List.setIfInBounds_toArray, List.set_cons_zero, List.set_cons_succ]
        refine' wpAnyK_takeL (i := 15) (v := _) rfl (by kernel_rfl) (by kernel_rfl) (by kernel_rfl) (by kernel_rfl) (fun _ _ _ h => h) (Or.inl ⟨by rfl, ?yT16⟩) hHeld ?rT16
        case yT16 => (intro w' hSw; (try dsimp only at hSw); go_simp; try with_reducible rfl)
        try simp only [List.getElem_toArray, List.getElem_cons_zero, List.getElem_cons_succ, Act.put, List.setIfInBounds_toArray, List.set_cons_zero, List.set_cons_succ]
        refine wpAnyK_done (by kernel_rfl) ?_ _
        have X2 := X1.below hd0 (Nat.le_refl _)
        have Y2 := Y1.below hd0 (Nat.le_refl _)
        have hv2 := hv1.below hd0 (Nat.le_refl _)
        have hu22 := hu21.below hd0 (Nat.le_refl _)
        have ha2 := ha1.below hd0 (Nat.le_refl _)
        have B2 := B1.trans (hd0.mono B1s)
        generalize w1.drew = w2 at X2 Y2 hv2 hu22 ha2 B2 ⊢
        have hf2 := Lk.of (v := .slice none 0 0) (RdT.rds hv2) (fun b hb => by cases hb)
        have hg2 := Lk.of (v := .slice none 0 0) (RdT.rds hu22) (fun b hb => by cases hb)
        have hn2 := Lk.of (v := .slice none 0 0) (RdI.rds ha2) (fun b hb => by cases hb)
        obtain ⟨x0, x1⟩ := id X2
        obtain ⟨y0, y1⟩ := id Y2
        go_wp2_with fail
        refine (l06Grow_c m1 m1 t.length t s (by omega) (by omega) (by omega) HT.out HS.out most hm2 (t.length - pre.length) _ _ _ _ pre [] _ _ (by omega) h1 h0 (fun x hxm => by have := hx x hxm; omega) hf2 hg2 hn2 (OwS.nil _ _) (Nat.le_refl _) (by simp; omega)).mono ?_
        rintro e w9 ⟨v9, rfl, ho9, hg9, -⟩
        have hb9 : Below w2.heap.size w2 w9 := Below.grown (Below.refl _ _) hg9 (Nat.le_refl _) (fun k hk => by cases hk)
        have B9 := B2.trans (hb9.mono B2.size)
        clear x0 x1 y0 y1
        go_wp2
        go_ret2
        rw [HR2.out]
        exact ⟨_, rfl, ho9.mono B2.size, B9⟩
      · obtain ⟨fb, hfb⟩ : ∃ fb, homB m1 2 (cutT 2 t) (cutT 2 s) pre = fb := ⟨_, rfl⟩
        have HFit := Lib.hid hfb
        rw [hfb] at HR
        clear hfb
        have hL : ((pre.length : Int) == 2) = true := by simp; omega
        have HCt := Lib.hid (cutT_ok HT.out (show 2 ≤ t.length by omega))
        have HCs := Lib.hid (cutT_ok HS.out (show 2 ≤ t.length by omega))
        have H3 := Lib.hid h3
        clear h3
        have HNX := Lib.hid (show ∀ x ∈ pre, 0 ≤ x ∧ x < m1 from fun x hxm => by have := hx x hxm; omega)
        clear x0 x1 y0 y1
        have hd0 : Below w1.heap.size w1 w1.drew := (Below.refl _ _).drew
        have hsd0 := hd0.size
        obtain ⟨f0_a, f0_b⟩ := ((X1).below (Below.refl w1.heap.size w1) (Nat.le_refl _))
        obtain ⟨f0_c, f0_d⟩ := ((Y1).below (Below.refl w1.heap.size w1) (Nat.le_refl _))
        refine wp_region_K (S := fun w' => w'.cell? ⟨w.heap.size, 0, none⟩ = some (.int .i64 m1) ∧ w'.cell? ⟨w.heap.size, 1, none⟩ = some (.slice o t.length c) ∧ w'.cell? ⟨w.heap.size + 1, 1, none⟩ = some (.slice o1 t.length c1)) [] (by kernel_rfl) ?_
        have hHeld : (fun w' : World => w'.cell? ⟨w.heap.size, 0, none⟩ = some (.int .i64 m1) ∧ w'.cell? ⟨w.heap.size, 1, none⟩ = some (.slice o t.length c) ∧ w'.cell? ⟨w.heap.size + 1, 1, none⟩ = some (.slice o1 t.length c1)) w1.drew := by go_keep
        refine' wpAnyK_takeL (i := 0) (v := _) rfl (by kernel_rfl) (by kernel_rfl) (by kernel_rfl) (by kernel_rfl) (fun _ _ _ h => h) (Or.inl ⟨by rfl, ?yT17⟩) hHeld ?rT17
        case yT17 => (intro w' hSw; (try dsimp only at hSw); go_simp; try with_reducible rfl)
        try simp only [List.getElem_toArray, List.getElem_cons_zero, List.getElem_cons_succ, Act.put, List.setIfInBounds_toArray, List.set_cons_zero, List.set_cons_succ]
        refine' wpAnyK_takeL (i := 1) (v := _) rfl (by kernel_rfl) (by kernel_rfl) (by kernel_rfl) (by kernel_rfl) (fun _ _ _ h => h) (Or.inl ⟨by rfl, ?yT18⟩) hHeld ?rT18
        case yT18 => (intro w' hSw; (try dsimp only at hSw); go_simp; try with_reducible rfl)
        try simp only [List.getElem_toArray, List.getElem_cons_zero, List.getElem_cons_succ, Act.put, List.setIfInBounds_toArray, List.set_cons_zero, List.set_cons_succ]
        refine' wpAnyK_takeL (i := 2) (v := _) rfl (by kernel_rfl) (by kernel_rfl) (by kernel_rfl) (by kernel_rfl) (fun _ _ _ h => h) (Or.inl ⟨by rfl, ?yT19⟩) hHeld ?rT19
        case yT19 => (intro w' hSw; (try dsimp only at hSw); go_simp; try with_reducible rfl)
        try simp only [List.getElem_toArray, List.getElem_cons_zero, List.getElem_cons_succ, Act.put, List.setIfInBounds_toArray, List.set_cons_zero, List.set_cons_succ]
        refine' wpAnyK_takeL (i := 3) (v := _) rfl (by kernel_rfl) (by kernel_rfl) (by kernel_rfl) (by kernel_rfl) (fun _ _ _ h => h) (Or.inl ⟨by rfl, ?yT20⟩) hHeld ?rT20
        case yT20 => (intro w' hSw; (try dsimp only at hSw); go_simp; try with_reducible rfl)
        try simp only [List.getElem_toArray, List.getElem_cons_zero, List.getElem_cons_succ, Act.put, List.setIfInBounds_toArray, List.set_cons_zero, List.set_cons_succ]
        refine' wpAnyK_takeL (i := 4) (v := _) rfl (by kernel_rfl) (by kernel_rfl) (by kernel_rfl) (by kernel_rfl) (fun _ _ _ h => h) (Or.inl ⟨by rfl, ?yT21⟩) hHeld ?rT21
        case yT21 => (intro w' hSw; (try dsimp only at hSw); go_simp; try with_reducible rfl)
        try simp only [List.getElem_toArray, List.getElem_cons_zero, List.getElem_cons_succ, Act.put, List.setIfInBounds_toArray, List.set_cons_zero, List.set_cons_succ]
        refine' wpAnyK_takeL (i := 5) (v := _) rfl (by kernel_rfl) (by kernel_rfl) (by kernel_rfl) (by kernel_rfl) (fun _ _ _ h => h) (Or.inl ⟨by rfl, ?yT22⟩) hHeld ?rT22
        case yT22 => (intro w' hSw; (try dsimp only at hSw); go_simp; try with_reducible rfl)
        try simp only [List.getElem_toArray, List.getElem_cons_zero, List.getElem_cons_succ, Act.put, List.setIfInBounds_toArray, List.set_cons_zero, List.set_cons_succ]
        refine' wpAnyK_takeL (i := 6) (v := _) rfl (by kernel_rfl) (by kernel_rfl) (by kernel_rfl) (by kernel_rfl) (fun _ _ _ h => h) (Or.inl ⟨by rfl, ?yT23⟩) hHeld ?rT23
        case yT23 => (intro w' hSw; (try dsimp only at hSw); go_simp; try with_reducible rfl)
        try simp only [List.getElem_toArray, List.getElem_cons_zero, List.getElem_cons_succ, Act.put, List.setIfInBounds_toArray, List.set_cons_zero, List.set_cons_succ]
        refine' wpAnyK_takeL (i := 7) (v := _) rfl (by kernel_rfl) (by kernel_rfl) (by kernel_rfl) (by kernel_rfl) (fun _ _ _ h => h) (Or.inl ⟨by rfl, ?yT24⟩) hHeld ?rT24
        case yT24 => (intro w' hSw; (try dsimp only at hSw); go_simp; try with_reducible rfl)
        try simp only [List.getElem_toArray, List.getElem_cons_zero, List.getElem_cons_succ, Act.put, List.setIfInBounds_toArray, List.set_cons_zero, List.set_cons_succ]
        refine' wpAnyK_takeL (i := 9) (v := _) rfl (by kernel_rfl) (by kernel_rfl) (by kernel_rfl) (by kernel_rfl) (fun _ _ _ h => h) (Or.inl ⟨by rfl, ?yT25⟩) hHeld ?rT25
        case yT25 => (intro w' hSw; (try dsimp only at hSw); go_simp; try with_reducible rfl)
        try simp only [List.getElem_toArray, List.getElem_cons_zero, List.getElem_cons_succ, Act.put, List.setIfInBounds_toArray, List.set_cons_zero, List.set_cons_succ]
        refine' wpAnyK_takeL (i := 10) (v := _) rfl (by kernel_rfl) (by kernel_rfl) (by kernel_rfl) (by kernel_rfl) (fun _ _ _ h => h) (Or.inl ⟨by rfl, ?yT26⟩) hHeld ?rT26
        case yT26 => (intro w' hSw; (try dsimp only at hSw); go_simp; try with_reducible rfl)
        try simp only [List.getElem_toArray, List.getElem_cons_zero, List.getElem_cons_succ, Act.put, List.setIfInBounds_toArray, List.set_cons_zero, List.set_cons_succ]
        refine' wpAnyK_takeL (i := 12) (v := _) rfl (by kernel_rfl) (by kernel_rfl) (by kernel_rfl) (by kernel_rfl) (fun _ _ _ h => h) (Or.inl ⟨by rfl, ?yT27⟩) hHeld ?rT27
        case yT27 => (intro w' hSw; (try dsimp only at hSw); go_simp; try with_reducible rfl)
        try simp only [List.getElem_toArray, List.getElem_cons_zero, List.getElem_cons_succ, Act.put, List.setIfInBounds_toArray, List.set_cons_zero, List.set_cons_succ]
        refine wpAnyK_oneL (i := 8) rfl (by kernel_rfl) (fun K hK => ?_)
        go_simp
        go_at_call_of 30 (Value.slice o t.length c)
        refine (l03Cut_c m1 1 t.length 2 _ t _ ((hv1).below (by (repeat (first | exact bR _ _ | (refine bS ?_ _) | (refine bA ?_ _) | (refine bN ?_ _) | (refine bD ?_)))) (Nat.le_refl _)) HT.out (by omega) (by omega) (by omega) (by omega)).mono ?_
        rintro e wd1 ⟨vt, rfl, hod1, hbd1⟩
        obtain ⟨ot, ct, rfl⟩ := hod1.shapeN (n := 2) (cutT_len _ _)
        have hd1 : Below w1.heap.size w1 wd1 := (by (repeat (first | exact bR _ _ | (refine bS ?_ _) | (refine bA ?_ _) | (refine bN ?_ _) | (refine bD ?_) | (refine bT ?_ hbd1))))
        have hsd1 := hd1.size
        have hsz1_ := hbd1.size
        (try simp at hsz1_)
        obtain ⟨f1_a, f1_b⟩ := ((X1).below hd1 (Nat.le_refl _))
        obtain ⟨f1_c, f1_d⟩ := ((Y1).below hd1 (Nat.le_refl _))
        go_wp2_with fail
        clear hHeld
        have hHeld : (fun w' : World => w'.cell? ⟨w.heap.size, 0, none⟩ = some (.int .i64 m1) ∧ w'.cell? ⟨w.heap.size, 1, none⟩ = some (.slice o t.length c) ∧ w'.cell? ⟨w.heap.size + 1, 1, none⟩ = some (.slice o1 t.length c1)) wd1 := by go_keep
        refine hK.out _ _ (fun _ => hHeld) ?_
        clear hK K
        try simp only [List.getElem_toArray, List.getElem_cons_zero, List.getElem_cons_succ, Act.put, List.setIfInBounds_toArray, List.set_cons_zero, List.set_cons_succ]
        refine wpAnyK_oneL (i := 11) rfl (by kernel_rfl) (fun K hK => ?_)
        go_simp
        go_at_call_of 30 (Value.slice o1 t.length c1)
        refine (l03Cut_c m1 1 t.length 2 _ s _ ((hu21).below (by (repeat (first | exact bR _ _ | (refine bS ?_ _) | (refine bA ?_ _) | (refine bN ?_ _) | (refine bD ?_) | (refine bT ?_ hbd1)))) (Nat.le_refl _)) HS.out (by omega) (by omega) (by omega) (by omega)).mono ?_
        rintro e wd2 ⟨vs, rfl, hod2, hbd2⟩
        obtain ⟨os, cs, rfl⟩ := hod2.shapeN (n := 2) (cutT_len _ _)
        have hd2 : Below w1.heap.size w1 wd2 := (by (repeat (first | exact bR _ _ | (refine bS ?_ _) | (refine bA ?_ _) | (refine bN ?_ _) | (refine bD ?_) | (refine bT ?_ hbd1) | (refine bT ?_ hbd2))))
        have hsd2 := hd2.size
        have hsz2_ := hbd2.size
        (try simp at hsz2_)
        obtain ⟨f2_a, f2_b⟩ := ((X1).below hd2 (Nat.le_refl _))
        obtain ⟨f2_c, f2_d⟩ := ((Y1).below hd2 (Nat.le_refl _))
        go_wp2_with fail
        clear hHeld
        have hHeld : (fun w' : World => w'.cell? ⟨w.heap.size, 0, none⟩ = some (.int .i64 m1) ∧ w'.cell? ⟨w.heap.size, 1, none⟩ = some (.slice o t.length c) ∧ w'.cell? ⟨w.heap.size + 1, 1, none⟩ = some (.slice o1 t.length c1)) wd2 := by go_keep
        refine hK.out _ _ (fun _ => hHeld) ?_
        clear hK K
        try simp only [List.getElem_toArray, List.getElem_cons_zero, List.getElem_cons_succ, Act.put, List.setIfInBounds_toArray, List.set_cons_zero, List.set_cons_succ]
        refine wpAnyK_oneL (i := 13) rfl (by kernel_rfl) (fun K hK => ?_)
        go_simp
        go_at_call 29
        refine (l06Fits_c m1 2 _ _ _ (cutT 2 t) (cutT 2 s) pre _ ((hod1.below (by (repeat (first | exact bR _ _ | (refine bS ?_ _) | (refine bA ?_ _) | (refine bN ?_ _) | (refine bD ?_) | (refine bT ?_ hbd2)))))).rd ((hod2.below (by (repeat (first | exact bR _ _ | (refine bS ?_ _) | (refine bA ?_ _) | (refine bN ?_ _) | (refine bD ?_)))))).rd ((ha1).below (by (repeat (first | exact bR _ _ | (refine bS ?_ _) | (refine bA ?_ _) | (refine bN ?_ _) | (refine bD ?_) | (refine bT ?_ hbd1) | (refine bT ?_ hbd2)))) (Nat.le_refl _)) H3.out (by omega) (by omega) (by omega) (by omega) HCt.out HCs.out HNX.out h0).mono ?_
        rintro e wd3 ⟨hq3, hbd3⟩
        rw [HFit.out] at hq3; subst hq3
        have hd3 : Below w1.heap.size w1 wd3 := (by (repeat (first | exact bR _ _ | (refine bS ?_ _) | (refine bA ?_ _) | (refine bN ?_ _) | (refine bD ?_) | (refine bT ?_ hbd1) | (refine bT ?_ hbd2) | (refine bT ?_ hbd3))))
        have hsd3 := hd3.size
        have hsz3_ := hbd3.size
        (try simp at hsz3_)
        obtain ⟨f3_a, f3_b⟩ := ((X1).below hd3 (Nat.le_refl _))
        obtain ⟨f3_c, f3_d⟩ := ((Y1).below hd3 (Nat.le_refl _))
        go_wp2_with fail
        clear hHeld
        have hHeld : (fun w' : World => w'.cell? ⟨w.heap.size, 0, none⟩ = some (.int .i64 m1) ∧ w'.cell? ⟨w.heap.size, 1, none⟩ = some (.slice o t.length c) ∧ w'.cell? ⟨w.heap.size + 1, 1, none⟩ = some (.slice o1 t.length c1)) wd3 := by go_keep
        refine hK.out _ _ (fun _ => hHeld) ?_
        clear hK K
        try simp only [List.getElem_toArray, List.getElem_cons_zero, List.getElem_cons_succ, Act.put, List.setIfInBounds_toArray, List.set_cons_zero, List.set_cons_succ]
        refine' wpAnyK_takeL (i := 14) (v := _) rfl (by kernel_rfl) (by kernel_rfl) (by kernel_rfl) (by kernel_rfl) (fun _ _ _ h => h) (Or.inl ⟨by rfl, ?yT28⟩) hHeld ?rT28
        case yT28 => (intro w' hSw; (try dsimp only at hSw); go_simp; try with_reducible rfl)
        try simp only [List.getElem_toArray, List.getElem_cons_zero, List.getElem_cons_succ, Act.put, List.setIfInBounds_toArray, List.set_cons_zero, List.set_cons_succ]
        refine' wpAnyK_takeL (i := 15) (v := _) rfl (by kernel_rfl) (by kernel_rfl) (by kernel_rfl) (by kernel_rfl) (fun _ _ _ h => h) (Or.inl ⟨by rfl, ?yT29⟩) hHeld ?rT29
        case yT29 => (intro w' hSw; (try dsimp only at hSw); go_simp; try with_reducible rfl)
        try simp only [List.getElem_toArray, List.getElem_cons_zero, List.getElem_cons_succ, Act.put, List.setIfInBounds_toArray, List.set_cons_zero, List.set_cons_succ]
        refine wpAnyK_done (by kernel_rfl) ?_ _
        have X2 := X1.below hd3 (Nat.le_refl _)
        have Y2 := Y1.below hd3 (Nat.le_refl _)
        have hv2 := hv1.below hd3 (Nat.le_refl _)
        have hu22 := hu21.below hd3 (Nat.le_refl _)
        have ha2 := ha1.below hd3 (Nat.le_refl _)
        have B2 := B1.trans (hd3.mono B1s)
        clear HFit HCt HCs f0_a f0_b f0_c f0_d f1_a f1_b f1_c f1_d f2_a f2_b f2_c f2_d f3_a f3_b f3_c f3_d hbd1 hbd2 hbd3 hod1 hod2 hHeld
        generalize hw2 : wd3 = w2 at X2 Y2 hv2 hu22 ha2 B2 ⊢
        cases fb
        · have HR2 := Lib.hid (show allR m1 t m1 s pre most = ⟨[], 0⟩ by rw [HR.out, if_neg (by simp), if_pos ⟨H3.out, rfl⟩])
          go_wp2
          go_ret2
          rw [HR2.out]
          exact ⟨_, rfl, OwS.nil _ _, B2⟩
        · have HR2 := Lib.hid (show allR m1 t m1 s pre most = ⟨growL m1.toNat t.length most (fitG m1 t s) (t.length - pre.length) pre [], 0⟩ by rw [HR.out, if_neg (by simp), if_neg (by simp)])
          have hf2 := Lk.of (v := .slice none 0 0) (RdT.rds hv2) (fun b hb => by cases hb)
          have hg2 := Lk.of (v := .slice none 0 0) (RdT.rds hu22) (fun b hb => by cases hb)
          have hn2 := Lk.of (v := .slice none 0 0) (RdI.rds ha2) (fun b hb => by cases hb)
          obtain ⟨x0, x1⟩ := id X2
          obtain ⟨y0, y1⟩ := id Y2
          go_wp2_with fail
          refine (l06Grow_c m1 m1 t.length t s (by omega) (by omega) (by omega) HT.out HS.out most hm2 (t.length - pre.length) _ _ _ _ pre [] _ _ (by omega) h1 h0 (fun x hxm => by have := hx x hxm; omega) hf2 hg2 hn2 (OwS.nil _ _) (Nat.le_refl _) (by simp; omega)).mono ?_
          rintro e w9 ⟨v9, rfl, ho9, hg9, -⟩
          have hb9 : Below w2.heap.size w2 w9 := Below.grown (Below.refl _ _) hg9 (Nat.le_refl _) (fun k hk => by cases hk)
          have B9 := B2.trans (hb9.mono B2.size)
          clear x0 x1 y0 y1
          go_wp2
          go_ret2
          rw [HR2.out]
          exact ⟨_, rfl, ho9.mono B2.size, B9⟩
    · go_wp2_with (go_at_call 28; refine (l06Large_c m1 _ (t.length - pre.length) _ (by omega) (by omega) (by omega) (by omega)).mono ?_; rw [HLB.out]; rintro e w' ⟨rfl, rfl⟩)
      go_ret2
      rw [HR.out]
      exact ⟨_, rfl, OwS.nil _ _, B1⟩
  · have hR : allR m t m1 s pre most = ⟨[], twoL m t m1 s⟩ := by unfold allR; rw [if_neg hc]
    have HR := Lib.hid hR
    clear hR
    obtain ⟨cc, hcc0⟩ : ∃ cc, twoL m t m1 s = cc := ⟨_, rfl⟩
    rw [hcc0] at hc HR
    have HC := Lib.hid hcc0
    clear hcc0
    have hcc : (cc != 0) = true := by simpa using hc
    clear hc
    go_enter Try.func14, Try.ntmps14
    go_wp2_with fail
    (have X0 := ((RB2.mk1 w  (.int .i64 m) (.slice o t.length c) 29).1).below (w' := ((w.alloc (.cells #[.int .i64 m, .slice o t.length c] 29)).alloc (.cells #[.int .i64 m1, .slice o1 s.length c1] 29))) (by (repeat (first | exact bR _ _ | (refine bS ?_ _) | (refine bA ?_ _) | (refine bN ?_ _) | (refine bD ?_)))) (Nat.le_refl _); have Y0 := ((RB2.mk2 w (.cells #[.int .i64 m, .slice o t.length c] 29) (.int .i64 m1) (.slice o1 s.length c1) 29).1).below (w' := ((w.alloc (.cells #[.int .i64 m, .slice o t.length c] 29)).alloc (.cells #[.int .i64 m1, .slice o1 s.length c1] 29))) (by (repeat (first | exact bR _ _ | (refine bS ?_ _) | (refine bA ?_ _) | (refine bN ?_ _) | (refine bD ?_)))) (Nat.le_refl _); have B0 : Below w.heap.size w ((w.alloc (.cells #[.int .i64 m, .slice o t.length c] 29)).alloc (.cells #[.int .i64 m1, .slice o1 s.length c1] 29)) := (by (repeat (first | exact bR _ _ | (refine bS ?_ _) | (refine bA ?_ _) | (refine bN ?_ _) | (refine bD ?_)))); have hv0 := hv.below (w' := ((w.alloc (.cells #[.int .i64 m, .slice o t.length c] 29)).alloc (.cells #[.int .i64 m1, .slice o1 s.length c1] 29))) (by (repeat (first | exact bR _ _ | (refine bS ?_ _) | (refine bA ?_ _) | (refine bN ?_ _) | (refine bD ?_)))) (Nat.le_refl _); have hu0 := hu.below (w' := ((w.alloc (.cells #[.int .i64 m, .slice o t.length c] 29)).alloc (.cells #[.int .i64 m1, .slice o1 s.length c1] 29))) (by (repeat (first | exact bR _ _ | (refine bS ?_ _) | (refine bA ?_ _) | (refine bN ?_ _) | (refine bD ?_)))) (Nat.le_refl _); generalize (w.alloc (.cells #[.int .i64 m, .slice o t.length c] 29)).alloc (.cells #[.int .i64 m1, .slice o1 s.length c1] 29) = w0 at X0 Y0 B0 hv0 hu0 ⊢)
    (obtain ⟨gqX0, gqX1⟩ := id X0; obtain ⟨gqY0, gqY1⟩ := id Y0; go_wp2_with fail; refine (l04Two_c m m1 _ _ t s _ hv0 hu0).mono ?_; rw [HC.out]; rintro e w1 ⟨rfl, hb⟩; (have X1 := X0.below hb (Nat.le_refl _); have Y1 := Y0.below hb (Nat.le_refl _); have B1 := B0.trans (hb.mono B0.size)); clear gqX0 gqX1 gqY0 gqY1; clear hb)
    go_wp2
    go_ret2
    rw [HR.out]
    exact ⟨_, rfl, OwS.nil _ _, B1⟩

theorem homB_iff {m : Int} {n : Nat} {t s : List (List Int)} {xs : List Int} : homB m n t s xs = true ↔ homT m n t s xs := by simp [homB, eqTB, homT]
theorem grow_all {m : Int} {n : Nat} {t s : List (List Int)} (hm : 0 < m) (ht : PlaT m n t) (hs : PlaT m n s) (ht0 : atT t 0 0 = 0) (most : Nat) (hmost : 0 < most) {d : Nat} {pre : List Int} (h1 : 1 ≤ pre.length) (h0 : at0 pre 0 = 0) (hd : pre.length + d = n) (hlast : d = 0 → homB m n t s pre = true) :
    growL m.toNat n most (fitG m t s) d pre [] = ((allC m.toNat d pre).filter (homB m n t s)).take most := by
  have := growL_eq (m := m.toNat) (n := n) (most := most) (fit := fitG m t s) (full := homB m n t s) (P := fun pre => 1 ≤ pre.length ∧ at0 pre 0 = 0) (fun pre c h => ⟨by simp, by rw [at0_app (by omega)]; exact h.2⟩)
    (fun d pre xs h hd hxs hfull => ?_) (fun xs h hl => ?_) d pre [] ⟨h1, h0⟩ hd (by simpa using hmost) hlast
  · simpa using this
  · obtain ⟨hl, htk, -⟩ := allC_mem hxs
    have hx0 : at0 xs 0 = 0 := by rw [← h.2, ← htk, at0_take (by omega)]
    have := homT_cut hm ht hs hx0 (by omega) ht0 (show pre.length ≤ n by omega) h.1 (homB_iff.1 hfull)
    rw [htk] at this
    exact homB_iff.2 this
  · show homB m xs.length (cutT xs.length t) (cutT xs.length s) xs = _
    rw [hl, cutT_all ht, cutT_all hs]
theorem largeB_f {m : Int} (hm : 1 ≤ m) : ∀ (k : Nat) (a : Int), 0 ≤ a → a ≤ 20000 → largeB m k a = false → a * m ^ k ≤ 20000
  | 0, a, h0, h1, h => by rw [Int.pow_zero, Int.mul_one]; exact h1
  | k + 1, a, h0, h1, h => by
    unfold largeB at h
    split at h
    · cases h
    · rename_i hq
      have := largeB_f hm k (a * m) (Int.mul_nonneg h0 (by omega)) (by omega) h
      rw [Int.pow_succ, Int.mul_comm (m ^ k), ← Int.mul_assoc]; exact this
theorem few {m : Int} (hm : 1 ≤ m) {k : Nat} (h : largeB m k 1 = false) : m.toNat ^ k ≤ 20000 := by
  have := largeB_f hm k 1 (by omega) (by omega) h
  rw [Int.one_mul] at this
  have e : ((m.toNat ^ k : Nat) : Int) = m ^ k := by rw [Int.natCast_pow, show ((m.toNat : Nat) : Int) = m by omega]
  omega

def homsL (m : Int) (n : Nat) (t s : List (List Int)) (d : Nat) (pre : List Int) : List (List Int) := (allC m.toNat d pre).filter (homB m n t s)
def allHR (m : Int) (t : List (List Int)) (m1 : Int) (s : List (List Int)) : TR :=
  if twoL m t m1 s = 0 then (if largeB m (t.length - 1) 1 then ⟨[], 3⟩ else ⟨homsL m t.length t s (t.length - 1) [0], 0⟩) else ⟨[], twoL m t m1 s⟩
theorem law_00 {m : Int} {t : List (List Int)} (h : lawB m t = true) : atT t 0 0 = 0 := by
  have := (fauL_nil (lawB_t h).2).1 0 (by have := (pla_n (lawB_t h).1).1; omega)
  rw [this]; rfl
theorem allR_0 (m : Int) (t : List (List Int)) (m1 : Int) (s : List (List Int)) : allR m t m1 s [0] 20000 = allHR m t m1 s := by
  unfold allR allHR
  by_cases hc : twoL m t m1 s = 0
  · rw [if_pos hc, if_pos hc]
    obtain ⟨a1, a2, e1, l1⟩ := twoL_0 hc
    subst e1
    have hn := pla_n (lawB_t a1).1
    have hm := pla_m (lawB_t a1).1
    have ht : PlaT m1 t.length t := ⟨rfl, pla_row (lawB_t a1).1⟩
    have hs : PlaT m1 t.length s := ⟨l1, by have := pla_row (lawB_t a2).1; exact this⟩
    show (if largeB m1 (t.length - 1) 1 = true then _ else _) = _
    cases hl : largeB m1 (t.length - 1) 1
    · rw [if_neg (by simp), if_neg (by simp), if_neg (fun h => by simp at h)]
      have hf := few (by omega) hl
      show TR.mk (growL m1.toNat t.length 20000 (fitG m1 t s) (t.length - 1) [0] []) 0 = _
      rw [grow_all (by omega) ht hs (law_00 a1) 20000 (by omega) (by simp) (by simp [at0]) (by simp; omega) (fun h => by omega)]
      rw [List.take_of_length_le]
      · rfl
      · exact Nat.le_trans (List.length_filter_le _ _) (by rw [allC_len]; exact hf)
    · rw [if_pos rfl, if_pos rfl]
  · rw [if_neg hc, if_neg hc]
end Go.Proofs.Ytfpphfjlpgefaaa
set_option linter.unusedSimpArgs false
set_option linter.unusedVariables false
namespace Go.Proofs.Ytfpphfjlpgefaaa
open Go.RowKit

theorem l06All_d (m : Int) (v : Value) (t : List (List Int)) (m1 : Int) (u : Value) (s : List (List Int)) (va : Value) (pre : List Int) (mo : Int) (most : Nat) (w : World) (hmo : mo = (most : Int)) (hv : RdT w v t) (hu : RdT w u s) (ha : RdI w va pre) (h1 : 1 ≤ pre.length) (h2 : pre.length ≤ 2) (h0 : at0 pre 0 = 0) (hx : ∀ x ∈ pre, 0 ≤ x ∧ x < 2) (hm1 : 1 ≤ most) (hm2 : most ≤ 20000) :
    Calls Try.prog 14 #[.agg #[.int .i64 m, v], .agg #[.int .i64 m1, u], va, .int .i64 mo] w fun e w' => ∃ v', e = .returned (.tuple #[v', .int .i64 (allR m t m1 s pre most).code]) ∧ OwS w' w.heap.size v' (allR m t m1 s pre most).xss ∧ Below w.heap.size w w' := by
  subst hmo; exact l06All_c m v t m1 u s va pre most w hv hu ha h1 h2 h0 hx hm1 hm2
theorem lit0_rd (w : World) {b : Nat} (hb : w.heap.size = b) : RdI (w.alloc (.cells #[.int .i64 0] 2)) (.slice (some ⟨b, 0, none⟩) 1 1) [0] := by
  subst hb; exact (OwI.lit w [0] (by decide)).rd
theorem allHR_len (m : Int) (t : List (List Int)) (m1 : Int) (s : List (List Int)) : (allHR m t m1 s).xss.length ≤ 20000 := by
  unfold allHR
  by_cases hc : twoL m t m1 s = 0
  · rw [if_pos hc]
    obtain ⟨a1, a2, e1, l1⟩ := twoL_0 hc
    have hm := pla_m (lawB_t a1).1
    cases hl : largeB m (t.length - 1) 1
    · rw [if_neg (by simp)]
      exact Nat.le_trans (List.length_filter_le _ _) (by rw [allC_len]; exact few (by omega) hl)
    · simp
  · rw [if_neg hc]; simp

end Go.Proofs.Ytfpphfjlpgefaaa
