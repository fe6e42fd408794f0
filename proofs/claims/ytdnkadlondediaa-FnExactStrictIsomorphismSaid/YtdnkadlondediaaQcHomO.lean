/- Lemmas of HomO. -/
import Derived.Test.YtdnkadlondediaaQcHomN
import Derived.Test.YtdnkadlondediaaQcInvL
set_option linter.unusedSimpArgs false
set_option linter.unusedVariables false
namespace Go.Proofs.Ytdnkadlondediaa
open Go.RowKit

set_option maxHeartbeats 400000 in
set_option maxRecDepth 100000 in
theorem strictCurves_c (m d : Int) (n : Nat) (fv : Value) (w : World) (Q : World → Prop) (hd : d + 1 = n) (h2 : 2 ≤ n) (hn : n ≤ 1000)
    (hcv : ∀ (g cz : Nat) (u : World), w.heap.size ≤ g → g < u.heap.size → Below w.heap.size w u → OwI u g (.slice (some ⟨g, 0, none⟩) n cz) (varL n) →
      Calls Try.prog 156 #[.agg #[.int .i64 m, .slice (some ⟨g, 0, none⟩) n cz], .int .i64 2, fv] u fun e w' => (∃ bb, e = .returned (.bool bb)) ∧ Q w') :
    Calls Try.prog 104 #[.int .i64 m, .int .i64 d, fv] w fun e w' => e = .returned (.tuple #[]) ∧ Q w' := by
  have HC := Lib.hid hcv
  clear hcv
  go_enter Try.func104, Try.ntmps104
  go_wp2_with fail
  refine (variable_c m d n _ hd h2 (by omega)).mono ?_
  rintro e w1 ⟨vz, rfl, how, hb⟩
  obtain ⟨oz, cz, rfl⟩ := how.shapeN (n := n) (varL_len _)
  obtain ⟨g, rfl, hgl, hgl'⟩ := how.row (by omega)
  go_wp2_with fail
  refine (HC.out g cz _ hgl hgl' hb how.raise).mono ?_
  rintro e w2 ⟨⟨bb, rfl⟩, hq⟩
  go_wp2
  exact bodyPost_end (v := .tuple #[]) (by simp [results, Try.results104, go_sem]) rfl ⟨rfl, hq⟩

theorem varL_2 {n : Nat} (h : 2 ≤ n) : (varL n).take 2 = [0, 1] := by
  obtain ⟨k, rfl⟩ : ∃ k, n = k + 2 := ⟨n - 2, by omega⟩
  simp [varL, List.replicate_succ]
theorem strictWalk (m : Int) (n b q g cz : Nat) (w u : World) (tv sv : Value) (t s : List (List Int)) (hw : w.heap.size = b) (hq : b + 3 ≤ q) (hg : q + 2 ≤ g) (hgu : g < u.heap.size) (hm : 2 ≤ m) (hm' : m ≤ 10000) (h2n : 2 ≤ n) (hn : n ≤ 1000) (ht : PlaT m n t) (hs : PlaT m n s) (hv : RdT w tv t) (hu : RdT w sv s) (hM : m.toNat ^ (n - 2) ≤ 20000)
    (hi : InvS m b q g w tv sv none none u) (hr : OwI u g (.slice (some ⟨g, 0, none⟩) n cz) (varL n)) :
    Calls Try.prog 156 #[.agg #[.int .i64 m, .slice (some ⟨g, 0, none⟩) n cz], .int .i64 2, .func (.func 105) #[] #[.pointer (some ⟨b, 0, none⟩), .pointer (some ⟨b + 1, 0, none⟩), .pointer (some ⟨q, 0, none⟩), .pointer (some ⟨q + 1, 0, none⟩)]] u fun e w' =>
      (∃ bb, e = .returned (.bool bb)) ∧ InvS m b q g w tv sv (homsL m n t s (n - 2) [0, 1]).head? none w' ∧ Ch [g, q, q + 1] none u w' := by
  have hR := runS m n t s (n - 2) [0, 1]
  have h1 := varL_2 h2n
  have hC := curves_c (S := Option (List Int)) m n 105 #[.pointer (some ⟨b, 0, none⟩), .pointer (some ⟨b + 1, 0, none⟩), .pointer (some ⟨q, 0, none⟩), .pointer (some ⟨q + 1, 0, none⟩)] (stS m n t s) (InvS m b q g w tv sv) [q, q + 1] (g + 1) g cz [0, 1] (fun _ => 0) 20001
    (fun xs l => Nat.zero_le _) hm hm' hn strict1_callable (by omega) (fun x hx => by simp at hx; omega) (by simp; omega)
    (fun l o x x' hi hs hk => hi.stay hw hq hg hs hk) (fun l o x hi j hj => by rw [hi.no] at hj; cases hj)
    (fun xs l o x0 x v hi hb0 hB ho hx hl hr _ hM => strict1_c m n b q g w tv sv t s hw hq hg hm hm' h2n hn ht hs hv hu xs l o x0 x v hi hb0 (by omega) hx hl hr)
    (n - 2) 2 (varL n) none none u (by omega) (varL_len n) (varL_range hm n) hr hi (by omega) (by simp) h1 (by omega)
  rw [h1, hR] at hC
  refine hC.mono ?_
  rintro e w' ⟨rfl, o', hi', ho', hc', -⟩
  have e0 : o' = none := hi'.no
  subst e0
  refine ⟨⟨_, rfl⟩, ?_, hc'⟩
  cases h : homsL m n t s (n - 2) [0, 1] with
  | nil => rw [h] at hi'; exact hi'
  | cons x l => rw [h] at hi'; exact hi'

set_option maxHeartbeats 400000 in
set_option maxRecDepth 100000 in
theorem StrictIsomorphism_c (m : Int) (v : Value) (t : List (List Int)) (m1 : Int) (u : Value) (s : List (List Int)) (w : World) (hv : RdT w v t) (hu : RdT w u s) :
    Calls Try.prog 46 #[.agg #[.int .i64 m, v], .agg #[.int .i64 m1, u]] w fun e w' => SEnd w w' (strR m t m1 s) e := by
  obtain ⟨o, c, rfl, hmt, -⟩ := id hv
  obtain ⟨o1, c1, rfl, -, -⟩ := id hu
  have hml := hmt.1
  clear hmt
  by_cases hc : schC m t m1 s (t.length - 2) = 0
  · have hcc : ((0 : Int) != 0) = false := by simp
    obtain ⟨ht0, hl0⟩ : twoL m t m1 s = 0 ∧ largeB m (t.length - 2) 1 = false := by
      unfold schC at hc
      split at hc
      · rename_i h
        refine ⟨h, ?_⟩
        cases hl : largeB m (t.length - 2) 1
        · rfl
        · rw [hl] at hc; simp at hc
      · contradiction
    obtain ⟨a1, a2, e1, l1⟩ := twoL_0 ht0
    subst e1
    have hn := pla_n (lawB_t a1).1
    have hm := pla_m (lawB_t a1).1
    have ht : PlaT m1 t.length t := ⟨rfl, pla_row (lawB_t a1).1⟩
    have hs : PlaT m1 t.length s := ⟨l1, by have := pla_row (lawB_t a2).1; exact this⟩
    have hf := few (by omega) hl0
    have hR2 : strR m1 t m1 s = (match homsL m1 t.length t s (t.length - 2) [0, 1] with | [] => SR.bad 4 | x :: _ => ⟨m1, x, 0⟩) := by
      unfold strR
      rw [if_pos ht0, hl0]; rfl
    have hxl : ∀ x ∈ homsL m1 t.length t s (t.length - 2) [0, 1], x.length = 2 + (t.length - 2) := fun x hx => (allC_mem (List.mem_filter.1 hx).1).1
    have HR2 := Lib.hid hR2
    generalize strR m1 t m1 s = rr at HR2 ⊢
    have HC := Lib.hid hc
    have HT := Lib.hid ht
    have HS := Lib.hid hs
    have hu2 : RdT w (.slice o1 t.length c1) s := by rw [l1] at hu; exact hu
    rw [l1]
    clear hc hR2 a1 a2 ht hs hu l1 ht0 hl0
    go_enter Try.func46, Try.ntmps46
    go_wp2_with fail
    (have X0 := ((RB2.mk1 w  (.int .i64 m1) (.slice o t.length c) 32).1).below (w' := (((w.alloc (.cells #[.int .i64 m1, .slice o t.length c] 32)).alloc (.cells #[.int .i64 m1, .slice o1 t.length c1] 32)).alloc (.cells #[.int .i64 0, .slice none 0 0] 34))) (by (repeat (first | exact Below.refl _ _ | (refine Below.setCell ?_ (by first | (simp; done) | (simp; omega) | omega) _) | (refine Below.alloc ?_ (by first | (simp; done) | (simp; omega) | omega) _) | (refine below_drewN ?_ _) | (refine Below.drew ?_)))) (Nat.le_refl _); have Y0 := ((RB2.mk2 w (.cells #[.int .i64 m1, .slice o t.length c] 32) (.int .i64 m1) (.slice o1 t.length c1) 32).1).below (w' := (((w.alloc (.cells #[.int .i64 m1, .slice o t.length c] 32)).alloc (.cells #[.int .i64 m1, .slice o1 t.length c1] 32)).alloc (.cells #[.int .i64 0, .slice none 0 0] 34))) (by (repeat (first | exact Below.refl _ _ | (refine Below.setCell ?_ (by first | (simp; done) | (simp; omega) | omega) _) | (refine Below.alloc ?_ (by first | (simp; done) | (simp; omega) | omega) _) | (refine below_drewN ?_ _) | (refine Below.drew ?_)))) (Nat.le_refl _); have R0 := ((RB2.mk3 w (.cells #[.int .i64 m1, .slice o t.length c] 32) (.cells #[.int .i64 m1, .slice o1 t.length c1] 32) (.int .i64 0) (.slice none 0 0) 34)).below (w' := (((w.alloc (.cells #[.int .i64 m1, .slice o t.length c] 32)).alloc (.cells #[.int .i64 m1, .slice o1 t.length c1] 32)).alloc (.cells #[.int .i64 0, .slice none 0 0] 34))) (by (repeat (first | exact Below.refl _ _ | (refine Below.setCell ?_ (by first | (simp; done) | (simp; omega) | omega) _) | (refine Below.alloc ?_ (by first | (simp; done) | (simp; omega) | omega) _) | (refine below_drewN ?_ _) | (refine Below.drew ?_)))) (Nat.le_refl _); have B0 : Below w.heap.size w (((w.alloc (.cells #[.int .i64 m1, .slice o t.length c] 32)).alloc (.cells #[.int .i64 m1, .slice o1 t.length c1] 32)).alloc (.cells #[.int .i64 0, .slice none 0 0] 34)) := (by (repeat (first | exact Below.refl _ _ | (refine Below.setCell ?_ (by first | (simp; done) | (simp; omega) | omega) _) | (refine Below.alloc ?_ (by first | (simp; done) | (simp; omega) | omega) _) | (refine below_drewN ?_ _) | (refine Below.drew ?_)))); have hv0 := hv.below (w' := (((w.alloc (.cells #[.int .i64 m1, .slice o t.length c] 32)).alloc (.cells #[.int .i64 m1, .slice o1 t.length c1] 32)).alloc (.cells #[.int .i64 0, .slice none 0 0] 34))) (by (repeat (first | exact Below.refl _ _ | (refine Below.setCell ?_ (by first | (simp; done) | (simp; omega) | omega) _) | (refine Below.alloc ?_ (by first | (simp; done) | (simp; omega) | omega) _) | (refine below_drewN ?_ _) | (refine Below.drew ?_)))) (Nat.le_refl _); have hu20 := hu2.below (w' := (((w.alloc (.cells #[.int .i64 m1, .slice o t.length c] 32)).alloc (.cells #[.int .i64 m1, .slice o1 t.length c1] 32)).alloc (.cells #[.int .i64 0, .slice none 0 0] 34))) (by (repeat (first | exact Below.refl _ _ | (refine Below.setCell ?_ (by first | (simp; done) | (simp; omega) | omega) _) | (refine Below.alloc ?_ (by first | (simp; done) | (simp; omega) | omega) _) | (refine below_drewN ?_ _) | (refine Below.drew ?_)))) (Nat.le_refl _); generalize ((w.alloc (.cells #[.int .i64 m1, .slice o t.length c] 32)).alloc (.cells #[.int .i64 m1, .slice o1 t.length c1] 32)).alloc (.cells #[.int .i64 0, .slice none 0 0] 34) = w0 at X0 Y0 R0 B0 hv0 hu20 ⊢)
    have B0s := B0.size
    have e1 : IntKind.i64.wrap ((t.length : Int) - 1 - 1) = (t.length : Int) - 1 - 1 := IntWalk.i64_in _ (by omega)
    go_wp2_with fail
    have hd0 : Below w0.heap.size w0 w0.drew := (Below.refl _ _).drew
    have hsd0 := hd0.size
    obtain ⟨f0_a, f0_b⟩ := ((X0).below (Below.refl w0.heap.size w0) (Nat.le_refl _))
    obtain ⟨f0_c, f0_d⟩ := ((Y0).below (Below.refl w0.heap.size w0) (Nat.le_refl _))
    refine wp_region_K (S := fun w' => w'.cell? ⟨w.heap.size, 0, none⟩ = some (.int .i64 m1) ∧ w'.cell? ⟨w.heap.size, 1, none⟩ = some (.slice o t.length c) ∧ w'.cell? ⟨w.heap.size + 1, 0, none⟩ = some (.int .i64 m1) ∧ w'.cell? ⟨w.heap.size + 1, 1, none⟩ = some (.slice o1 t.length c1)) [] (by kernel_rfl) ?_
    have hHeld : (fun w' : World => w'.cell? ⟨w.heap.size, 0, none⟩ = some (.int .i64 m1) ∧ w'.cell? ⟨w.heap.size, 1, none⟩ = some (.slice o t.length c) ∧ w'.cell? ⟨w.heap.size + 1, 0, none⟩ = some (.int .i64 m1) ∧ w'.cell? ⟨w.heap.size + 1, 1, none⟩ = some (.slice o1 t.length c1)) w0.drew := by go_keep
    refine' wpAnyK_takeL (i := 0) (v := _) rfl (by kernel_rfl) (by kernel_rfl) (by kernel_rfl) (by kernel_rfl) (fun _ _ _ h => h) (Or.inl ⟨by rfl, ?yT1⟩) hHeld ?rT1
    case yT1 => (intro w' hSw; (try dsimp only at hSw); go_simp; try with_reducible rfl)
    try simp only [List.getElem_toArray, List.getElem_cons_zero, List.getElem_cons_succ, Act.put, List.setIfInBounds_toArray, List.set_cons_zero, List.set_cons_succ]
    refine' wpAnyK_takeL (i := 1) (v := _) rfl (by kernel_rfl) (by kernel_rfl) (by kernel_rfl) (by kernel_rfl) (fun _ _ _ h => h) (Or.inl ⟨by rfl, ?yT2⟩) hHeld ?rT2
    case yT2 => (intro w' hSw; (try dsimp only at hSw); go_simp; try with_reducible rfl)
    try simp only [List.getElem_toArray, List.getElem_cons_zero, List.getElem_cons_succ, Act.put, List.setIfInBounds_toArray, List.set_cons_zero, List.set_cons_succ]
    refine' wpAnyK_takeL (i := 2) (v := _) rfl (by kernel_rfl) (by kernel_rfl) (by kernel_rfl) (by kernel_rfl) (fun _ _ _ h => h) (Or.inl ⟨by rfl, ?yT3⟩) hHeld ?rT3
    case yT3 => (intro w' hSw; (try dsimp only at hSw); go_simp; try with_reducible rfl)
    try simp only [List.getElem_toArray, List.getElem_cons_zero, List.getElem_cons_succ, Act.put, List.setIfInBounds_toArray, List.set_cons_zero, List.set_cons_succ]
    refine wpAnyK_oneL (i := 3) rfl (by kernel_rfl) (fun K hK => ?_)
    go_simp
    go_at_call 71
    refine (degreeP_c m1 o t.length c _ hml).mono ?_
    rintro e wd1 ⟨rfl, hbd1⟩
    have hd1 : Below w0.heap.size w0 wd1 := (by (repeat (first | exact Below.refl _ _ | (refine Below.setCell ?_ (by first | (simp; done) | (simp; omega) | omega) _) | (refine Below.alloc ?_ (by first | (simp; done) | (simp; omega) | omega) _) | (refine below_drewN ?_ _) | (refine Below.drew ?_) | (refine Below.trans ?_ (Below.mono hbd1 (by first | (simp; done) | (simp; omega) | omega))))))
    have hsd1 := hd1.size
    have hsz1_ := hbd1.size
    (try simp at hsz1_)
    obtain ⟨f1_a, f1_b⟩ := ((X0).below hd1 (Nat.le_refl _))
    obtain ⟨f1_c, f1_d⟩ := ((Y0).below hd1 (Nat.le_refl _))
    go_wp2_with fail
    clear hHeld
    have hHeld : (fun w' : World => w'.cell? ⟨w.heap.size, 0, none⟩ = some (.int .i64 m1) ∧ w'.cell? ⟨w.heap.size, 1, none⟩ = some (.slice o t.length c) ∧ w'.cell? ⟨w.heap.size + 1, 0, none⟩ = some (.int .i64 m1) ∧ w'.cell? ⟨w.heap.size + 1, 1, none⟩ = some (.slice o1 t.length c1)) wd1 := by go_keep
    refine hK.out _ _ (fun _ => hHeld) ?_
    clear hK K
    try simp only [List.getElem_toArray, List.getElem_cons_zero, List.getElem_cons_succ, Act.put, List.setIfInBounds_toArray, List.set_cons_zero, List.set_cons_succ]
    refine' wpAnyK_takeL (i := 4) (v := _) rfl (by kernel_rfl) (by kernel_rfl) (by kernel_rfl) (by kernel_rfl) (fun _ _ _ h => h) (Or.inl ⟨by rfl, ?yT4⟩) hHeld ?rT4
    case yT4 => (intro w' hSw; (try dsimp only at hSw); go_simp; try with_reducible rfl)
    try simp only [List.getElem_toArray, List.getElem_cons_zero, List.getElem_cons_succ, Act.put, List.setIfInBounds_toArray, List.set_cons_zero, List.set_cons_succ]
    refine wpAnyK_oneL (i := 5) rfl (by kernel_rfl) (fun K hK => ?_)
    go_simp
    go_at_call 101
    refine (searchable_c m1 _ t m1 _ s _ (t.length - 2) _ ((hv0).below (by (repeat (first | exact Below.refl _ _ | (refine Below.setCell ?_ (by first | (simp; done) | (simp; omega) | omega) _) | (refine Below.alloc ?_ (by first | (simp; done) | (simp; omega) | omega) _) | (refine below_drewN ?_ _) | (refine Below.drew ?_) | (refine Below.trans ?_ (Below.mono hbd1 (by first | (simp; done) | (simp; omega) | omega)))))) (Nat.le_refl _)) ((hu20).below (by (repeat (first | exact Below.refl _ _ | (refine Below.setCell ?_ (by first | (simp; done) | (simp; omega) | omega) _) | (refine Below.alloc ?_ (by first | (simp; done) | (simp; omega) | omega) _) | (refine below_drewN ?_ _) | (refine Below.drew ?_) | (refine Below.trans ?_ (Below.mono hbd1 (by first | (simp; done) | (simp; omega) | omega)))))) (Nat.le_refl _)) (fun _ => ⟨by omega, by omega⟩)).mono ?_
    rintro e wd2 ⟨hq2, hbd2⟩
    rw [HC.out] at hq2; subst hq2
    have hd2 : Below w0.heap.size w0 wd2 := (by (repeat (first | exact Below.refl _ _ | (refine Below.setCell ?_ (by first | (simp; done) | (simp; omega) | omega) _) | (refine Below.alloc ?_ (by first | (simp; done) | (simp; omega) | omega) _) | (refine below_drewN ?_ _) | (refine Below.drew ?_) | (refine Below.trans ?_ (Below.mono hbd1 (by first | (simp; done) | (simp; omega) | omega))) | (refine Below.trans ?_ (Below.mono hbd2 (by first | (simp; done) | (simp; omega) | omega))))))
    have hsd2 := hd2.size
    have hsz2_ := hbd2.size
    (try simp at hsz2_)
    obtain ⟨f2_a, f2_b⟩ := ((X0).below hd2 (Nat.le_refl _))
    obtain ⟨f2_c, f2_d⟩ := ((Y0).below hd2 (Nat.le_refl _))
    go_wp2_with fail
    clear hHeld
    have hHeld : (fun w' : World => w'.cell? ⟨w.heap.size, 0, none⟩ = some (.int .i64 m1) ∧ w'.cell? ⟨w.heap.size, 1, none⟩ = some (.slice o t.length c) ∧ w'.cell? ⟨w.heap.size + 1, 0, none⟩ = some (.int .i64 m1) ∧ w'.cell? ⟨w.heap.size + 1, 1, none⟩ = some (.slice o1 t.length c1)) wd2 := by go_keep
    refine hK.out _ _ (fun _ => hHeld) ?_
    clear hK K
    try simp only [List.getElem_toArray, List.getElem_cons_zero, List.getElem_cons_succ, Act.put, List.setIfInBounds_toArray, List.set_cons_zero, List.set_cons_succ]
    refine wpAnyK_oneL (i := 6) rfl (by kernel_rfl) (fun K hK => ?_)
    go_simp
    (try go_wp2_with fail)
    refine hK.out _ _ (fun _ => hHeld) ?_
    clear hK K
    try simp only [List.getElem_toArray, List.getElem_cons_zero, List.getElem_cons_succ, Act.put, List.setIfInBounds_toArray, List.set_cons_zero, List.set_cons_succ]
    refine wpAnyK_done (by kernel_rfl) ?_ _
    have hv2 := hv0.below hd2 (Nat.le_refl _)
    have hu22 := hu20.below hd2 (Nat.le_refl _)
    have X2 := X0.below hd2 (Nat.le_refl _)
    have Y2 := Y0.below hd2 (Nat.le_refl _)
    have R2 := R0.below hd2 (Nat.le_refl _)
    have B2 := B0.trans (hd2.mono B0s)
    clear f0_a f0_b f0_c f0_d f1_a f1_b f1_c f1_d f2_a f2_b f2_c f2_d hbd1 hbd2 hHeld
    go_wp2_with fail
    have hq3 : w.heap.size + 3 ≤ wd2.heap.size := by have := R2.1.lt; omega
    have hB3 : Below wd2.heap.size wd2 ((wd2.alloc (.cells #[.int .i64 0, .slice none 0 0] 34)).alloc (.cells #[.bool false] 4)) := (by (repeat (first | exact Below.refl _ _ | (refine Below.setCell ?_ (by first | (simp; done) | (simp; omega) | omega) _) | (refine Below.alloc ?_ (by first | (simp; done) | (simp; omega) | omega) _) | (refine below_drewN ?_ _) | (refine Below.drew ?_))))
    have Z3 : RB2 ((wd2.alloc (.cells #[.int .i64 0, .slice none 0 0] 34)).alloc (.cells #[.bool false] 4)) wd2.heap.size (.int .i64 0) (.slice none 0 0) := (RB2.mk1 wd2 (.int .i64 0) (.slice none 0 0) 34).below (by (repeat (first | exact Below.refl _ _ | (refine Below.setCell ?_ (by first | (simp; done) | (simp; omega) | omega) _) | (refine Below.alloc ?_ (by first | (simp; done) | (simp; omega) | omega) _) | (refine below_drewN ?_ _) | (refine Below.drew ?_)))) (Nat.le_refl _)
    have N3 : Cel1 ((wd2.alloc (.cells #[.int .i64 0, .slice none 0 0] 34)).alloc (.cells #[.bool false] 4)) (wd2.heap.size + 1) 0 (.bool false) := ⟨by have := (show (wd2.alloc (.cells #[.int .i64 0, .slice none 0 0] 34)).heap.size = wd2.heap.size + 1 by simp); rw [← this]; simp⟩
    have M3 : ∀ k, ((wd2.alloc (.cells #[.int .i64 0, .slice none 0 0] 34)).alloc (.cells #[.bool false] 4)).frozen? ⟨wd2.heap.size + 1, k, none⟩ = false := fun k => by
      have h1 := (show (wd2.alloc (.cells #[.int .i64 0, .slice none 0 0] 34)).heap.size = wd2.heap.size + 1 by simp)
      rw [← h1]; exact frozen_new _ _ _ _
    have S3 : ((wd2.alloc (.cells #[.int .i64 0, .slice none 0 0] 34)).alloc (.cells #[.bool false] 4)).heap.size = wd2.heap.size + 2 := by simp
    have X3 := X2.below hB3 (Nat.le_refl _)
    have Y3 := Y2.below hB3 (Nat.le_refl _)
    have R3 := R2.below hB3 (Nat.le_refl _)
    have B3 := B2.trans (hB3.mono B2.size)
    generalize (wd2.alloc (.cells #[.int .i64 0, .slice none 0 0] 34)).alloc (.cells #[.bool false] 4) = w3 at hB3 Z3 N3 M3 S3 X3 Y3 R3 B3 ⊢
    generalize wd2.heap.size = q at hq3 Z3 N3 M3 S3 ⊢
    clear hB3 X2 Y2 R2 B2 hv2 hu22 hd1 hd2 hsd1 hsd2 hd0 hsd0
    have B3s := B3.size
    have hd0 : Below w3.heap.size w3 w3.drew := (Below.refl _ _).drew
    have hsd0 := hd0.size
    obtain ⟨f0_a, f0_b⟩ := ((X3).below (Below.refl w3.heap.size w3) (Nat.le_refl _))
    refine wp_region_K (S := fun w' => w'.cell? ⟨w.heap.size, 0, none⟩ = some (.int .i64 m1) ∧ w'.cell? ⟨w.heap.size, 1, none⟩ = some (.slice o t.length c)) [5] (by kernel_rfl) ?_
    have hHeld : (fun w' : World => w'.cell? ⟨w.heap.size, 0, none⟩ = some (.int .i64 m1) ∧ w'.cell? ⟨w.heap.size, 1, none⟩ = some (.slice o t.length c)) w3.drew := by go_keep
    refine' wpAnyK_takeL (i := 0) (v := _) rfl (by kernel_rfl) (by kernel_rfl) (by kernel_rfl) (by kernel_rfl) (fun _ _ _ h => h) (Or.inl ⟨by rfl, ?yT5⟩) hHeld ?rT5
    case yT5 => (intro w' hSw; (try dsimp only at hSw); go_simp; try with_reducible rfl)
    try simp only [List.getElem_toArray, List.getElem_cons_zero, List.getElem_cons_succ, Act.put, List.setIfInBounds_toArray, List.set_cons_zero, List.set_cons_succ]
    refine' wpAnyK_takeL (i := 1) (v := _) rfl (by kernel_rfl) (by kernel_rfl) (by kernel_rfl) (by kernel_rfl) (fun _ _ _ h => h) (Or.inl ⟨by rfl, ?yT6⟩) hHeld ?rT6
    case yT6 => (intro w' hSw; (try dsimp only at hSw); go_simp; try with_reducible rfl)
    try simp only [List.getElem_toArray, List.getElem_cons_zero, List.getElem_cons_succ, Act.put, List.setIfInBounds_toArray, List.set_cons_zero, List.set_cons_succ]
    refine' wpAnyK_takeL (i := 2) (v := _) rfl (by kernel_rfl) (by kernel_rfl) (by kernel_rfl) (by kernel_rfl) (fun _ _ _ h => h) (Or.inl ⟨by rfl, ?yT7⟩) hHeld ?rT7
    case yT7 => (intro w' hSw; (try dsimp only at hSw); go_simp; try with_reducible rfl)
    try simp only [List.getElem_toArray, List.getElem_cons_zero, List.getElem_cons_succ, Act.put, List.setIfInBounds_toArray, List.set_cons_zero, List.set_cons_succ]
    refine' wpAnyK_takeL (i := 4) (v := _) rfl (by kernel_rfl) (by kernel_rfl) (by kernel_rfl) (by kernel_rfl) (fun _ _ _ h => h) (Or.inl ⟨by rfl, ?yT8⟩) hHeld ?rT8
    case yT8 => (intro w' hSw; (try dsimp only at hSw); go_simp; try with_reducible rfl)
    try simp only [List.getElem_toArray, List.getElem_cons_zero, List.getElem_cons_succ, Act.put, List.setIfInBounds_toArray, List.set_cons_zero, List.set_cons_succ]
    refine wpAnyK_oneL (i := 3) rfl (by kernel_rfl) (fun K hK => ?_)
    go_simp
    go_at_call 71
    refine (degreeP_c m1 o t.length c _ hml).mono ?_
    rintro e wd1 ⟨rfl, hbd1⟩
    have hd1 : Below w3.heap.size w3 wd1 := (by (repeat (first | exact Below.refl _ _ | (refine Below.setCell ?_ (by first | (simp; done) | (simp; omega) | omega) _) | (refine Below.alloc ?_ (by first | (simp; done) | (simp; omega) | omega) _) | (refine below_drewN ?_ _) | (refine Below.drew ?_) | (refine Below.trans ?_ (Below.mono hbd1 (by first | (simp; done) | (simp; omega) | omega))))))
    have hsd1 := hd1.size
    have hsz1_ := hbd1.size
    (try simp at hsz1_)
    obtain ⟨f1_a, f1_b⟩ := ((X3).below hd1 (Nat.le_refl _))
    go_wp2_with fail
    clear hHeld
    have hHeld : (fun w' : World => w'.cell? ⟨w.heap.size, 0, none⟩ = some (.int .i64 m1) ∧ w'.cell? ⟨w.heap.size, 1, none⟩ = some (.slice o t.length c)) wd1 := by go_keep
    refine hK.out _ _ (fun _ => hHeld) ?_
    clear hK K
    try simp only [List.getElem_toArray, List.getElem_cons_zero, List.getElem_cons_succ, Act.put, List.setIfInBounds_toArray, List.set_cons_zero, List.set_cons_succ]
    refine wpAnyK_oneL (i := 5) rfl (by kernel_rfl) (fun K hK => ?_)
    go_simp
    refine (strictCurves_c m1 _ t.length _ wd1 (fun w' => ∃ (g : Nat) (u : World), wd1.heap.size ≤ g ∧ Below wd1.heap.size wd1 u ∧ InvS m1 w.heap.size q g w (.slice o t.length c) (.slice o1 t.length c1) (homsL m1 t.length t s (t.length - 2) [0, 1]).head? none w' ∧ Ch [g, q, q + 1] none u w') (by omega) (by omega) (by omega) (fun g cz u h1 h2 h3 h4 => ?_)).mono ?_
    · (have hw3u : Below w3.heap.size w3 u := hd1.trans (h3.mono hsd1); have hi : InvS m1 w.heap.size q g w (.slice o t.length c) (.slice o1 t.length c1) none none u := ⟨fun k hk => (hw3u.block k (by omega)).trans (B3.block k hk), X3.below hw3u (Nat.le_refl _), Y3.below hw3u (Nat.le_refl _), R3.below hw3u (Nat.le_refl _), rfl, _, _, false, Z3.below hw3u (Nat.le_refl _), N3.below hw3u (Nat.le_refl _), fun k => (World.frozen?_of_block (hw3u.block (q + 1) (by omega))).trans (M3 k), rfl, rfl, rfl⟩; refine (strictWalk m1 t.length w.heap.size q g cz w u _ _ t s rfl hq3 (by omega) h2 (by omega) (by omega) (by omega) (by omega) HT.out HS.out hv hu2 hf hi h4).mono ?_; rintro e w' ⟨he, hi', hc'⟩; exact ⟨he, g, u, h1, h3, hi', hc'⟩)
    rintro e w9 ⟨rfl, g, u9, hg9, hb9, hi9, hc9⟩
    have Bu : Below w.heap.size w u9 := B3.trans ((hd1.trans (hb9.mono hsd1)).mono B3s)
    have B9 : Below w.heap.size w w9 := Bu.trans (hc9.below (fun x hx => by simp at hx; omega) (fun j hj => by cases hj) Bu.size)
    have hg9' : q + 2 ≤ g := by omega
    go_wp2_with fail
    refine hK.out _ _ (fun h => absurd h (by decide)) ?_
    clear hK K
    try simp only [List.getElem_toArray, List.getElem_cons_zero, List.getElem_cons_succ, Act.put, List.setIfInBounds_toArray, List.set_cons_zero, List.set_cons_succ]
    refine wpAnyK_done (by kernel_rfl) ?_ _
    obtain ⟨x0, x1, fnd, h6, h7, h8, h9⟩ := hi9.box
    obtain ⟨⟨z0, z1⟩, zf⟩ := id h6
    have p7 := h7.get
    obtain ⟨⟨r0, r1⟩, rf⟩ := id hi9.res
    clear f0_a f0_b f1_a f1_b hbd1 hHeld
    cases hlist : homsL m1 t.length t s (t.length - 2) [0, 1] with
    | nil =>
      rw [hlist] at h9
      obtain ⟨rfl, rfl, rfl⟩ := h9
      obtain rfl : rr = SR.bad 4 := by rw [HR2.out, hlist]
      clear HR2 hi9 hxl hlist
      go_wp2
      exact bodyPost_ret (v := .tuple #[.agg #[.int .i64 0, .slice none 0 0], .int .i64 4]) (by simp [results, Try.results46, go_sem, r0, r1]) rfl ⟨_, rfl, OwI.nil _ _, (by (repeat (first | exact Below.refl _ _ | (refine Below.setCell ?_ (by first | (simp; done) | (simp; omega) | omega) _) | (refine Below.alloc ?_ (by first | (simp; done) | (simp; omega) | omega) _) | (refine below_drewN ?_ _) | (refine Below.drew ?_) | (refine Below.trans ?_ (Below.mono B9 (by first | (simp; done) | (simp; omega) | omega)))))), by simp [SR.bad]⟩
    | cons x l =>
      rw [hlist] at h9
      obtain ⟨rfl, rfl, lo, k1, k2, k3⟩ := h9
      obtain rfl : rr = ⟨m1, x, 0⟩ := by rw [HR2.out, hlist]
      have hlx := hxl x (by rw [hlist]; simp)
      clear HR2 hi9 hxl hlist
      obtain ⟨ox, cx, rfl⟩ := k3.shapeN (n := t.length) (by omega)
      have hne : q ≠ w.heap.size + 1 + 1 := by omega
      have hne' : q ≠ w.heap.size + 2 := by omega
      go_wp2
      refine bodyPost_ret (v := .tuple #[.agg #[.int .i64 m1, .slice ox t.length cx], .int .i64 0]) (by simp [results, Try.results46, go_sem, r0, r1]) rfl ⟨_, rfl, ?_, (by (repeat (first | exact Below.refl _ _ | (refine Below.setCell ?_ (by first | (simp; done) | (simp; omega) | omega) _) | (refine Below.alloc ?_ (by first | (simp; done) | (simp; omega) | omega) _) | (refine below_drewN ?_ _) | (refine Below.drew ?_) | (refine Below.trans ?_ (Below.mono B9 (by first | (simp; done) | (simp; omega) | omega)))))), by show x.length ≤ _; omega⟩
      exact ((k3.low (by first | (simp; done) | (simp; omega) | omega) _).low (by first | (simp; done) | (simp; omega) | omega) _).mono (by first | (simp; done) | (simp; omega) | omega)
  · have hR : strR m t m1 s = SR.bad (schC m t m1 s (t.length - 2)) := by
      unfold strR schC
      unfold schC at hc
      split
      · rename_i h
        rw [if_pos h] at hc
        split
        · rfl
        · rename_i h2
          rw [if_neg h2] at hc
          exact absurd rfl hc
      · rfl
    rw [hR]
    clear hR
    obtain ⟨cc, hcc0⟩ : ∃ cc, schC m t m1 s (t.length - 2) = cc := ⟨_, rfl⟩
    rw [hcc0] at hc ⊢
    have HC := Lib.hid hcc0
    clear hcc0
    have hcc : (cc != 0) = true := by simpa using hc
    clear hc
    have HD := Lib.hid (show twoL m t m1 s = 0 → (t.length : Int) - 1 - 1 = ((t.length - 2 : Nat) : Int) ∧ t.length - 2 ≤ 1000 from fun h => by have := pla_n (lawB_t (twoL_0 h).1).1; omega)
    unfold maxLen at hml
    have e1 : IntKind.i64.wrap ((t.length : Int) - 1 - 1) = (t.length : Int) - 1 - 1 := IntWalk.i64_in _ (by omega)
    go_enter Try.func46, Try.ntmps46
    go_wp2_with fail
    (have X0 := ((RB2.mk1 w  (.int .i64 m) (.slice o t.length c) 32).1).below (w' := (((w.alloc (.cells #[.int .i64 m, .slice o t.length c] 32)).alloc (.cells #[.int .i64 m1, .slice o1 s.length c1] 32)).alloc (.cells #[.int .i64 0, .slice none 0 0] 34))) (by (repeat (first | exact Below.refl _ _ | (refine Below.setCell ?_ (by first | (simp; done) | (simp; omega) | omega) _) | (refine Below.alloc ?_ (by first | (simp; done) | (simp; omega) | omega) _) | (refine below_drewN ?_ _) | (refine Below.drew ?_)))) (Nat.le_refl _); have Y0 := ((RB2.mk2 w (.cells #[.int .i64 m, .slice o t.length c] 32) (.int .i64 m1) (.slice o1 s.length c1) 32).1).below (w' := (((w.alloc (.cells #[.int .i64 m, .slice o t.length c] 32)).alloc (.cells #[.int .i64 m1, .slice o1 s.length c1] 32)).alloc (.cells #[.int .i64 0, .slice none 0 0] 34))) (by (repeat (first | exact Below.refl _ _ | (refine Below.setCell ?_ (by first | (simp; done) | (simp; omega) | omega) _) | (refine Below.alloc ?_ (by first | (simp; done) | (simp; omega) | omega) _) | (refine below_drewN ?_ _) | (refine Below.drew ?_)))) (Nat.le_refl _); have R0 := ((RB2.mk3 w (.cells #[.int .i64 m, .slice o t.length c] 32) (.cells #[.int .i64 m1, .slice o1 s.length c1] 32) (.int .i64 0) (.slice none 0 0) 34)).below (w' := (((w.alloc (.cells #[.int .i64 m, .slice o t.length c] 32)).alloc (.cells #[.int .i64 m1, .slice o1 s.length c1] 32)).alloc (.cells #[.int .i64 0, .slice none 0 0] 34))) (by (repeat (first | exact Below.refl _ _ | (refine Below.setCell ?_ (by first | (simp; done) | (simp; omega) | omega) _) | (refine Below.alloc ?_ (by first | (simp; done) | (simp; omega) | omega) _) | (refine below_drewN ?_ _) | (refine Below.drew ?_)))) (Nat.le_refl _); have B0 : Below w.heap.size w (((w.alloc (.cells #[.int .i64 m, .slice o t.length c] 32)).alloc (.cells #[.int .i64 m1, .slice o1 s.length c1] 32)).alloc (.cells #[.int .i64 0, .slice none 0 0] 34)) := (by (repeat (first | exact Below.refl _ _ | (refine Below.setCell ?_ (by first | (simp; done) | (simp; omega) | omega) _) | (refine Below.alloc ?_ (by first | (simp; done) | (simp; omega) | omega) _) | (refine below_drewN ?_ _) | (refine Below.drew ?_)))); have hv0 := hv.below (w' := (((w.alloc (.cells #[.int .i64 m, .slice o t.length c] 32)).alloc (.cells #[.int .i64 m1, .slice o1 s.length c1] 32)).alloc (.cells #[.int .i64 0, .slice none 0 0] 34))) (by (repeat (first | exact Below.refl _ _ | (refine Below.setCell ?_ (by first | (simp; done) | (simp; omega) | omega) _) | (refine Below.alloc ?_ (by first | (simp; done) | (simp; omega) | omega) _) | (refine below_drewN ?_ _) | (refine Below.drew ?_)))) (Nat.le_refl _); have hu0 := hu.below (w' := (((w.alloc (.cells #[.int .i64 m, .slice o t.length c] 32)).alloc (.cells #[.int .i64 m1, .slice o1 s.length c1] 32)).alloc (.cells #[.int .i64 0, .slice none 0 0] 34))) (by (repeat (first | exact Below.refl _ _ | (refine Below.setCell ?_ (by first | (simp; done) | (simp; omega) | omega) _) | (refine Below.alloc ?_ (by first | (simp; done) | (simp; omega) | omega) _) | (refine below_drewN ?_ _) | (refine Below.drew ?_)))) (Nat.le_refl _); generalize ((w.alloc (.cells #[.int .i64 m, .slice o t.length c] 32)).alloc (.cells #[.int .i64 m1, .slice o1 s.length c1] 32)).alloc (.cells #[.int .i64 0, .slice none 0 0] 34) = w0 at X0 Y0 R0 B0 hv0 hu0 ⊢)
    have B0s := B0.size
    go_wp2_with fail
    have hd0 : Below w0.heap.size w0 w0.drew := (Below.refl _ _).drew
    have hsd0 := hd0.size
    obtain ⟨f0_a, f0_b⟩ := ((X0).below (Below.refl w0.heap.size w0) (Nat.le_refl _))
    obtain ⟨f0_c, f0_d⟩ := ((Y0).below (Below.refl w0.heap.size w0) (Nat.le_refl _))
    refine wp_region_K (S := fun w' => w'.cell? ⟨w.heap.size, 0, none⟩ = some (.int .i64 m) ∧ w'.cell? ⟨w.heap.size, 1, none⟩ = some (.slice o t.length c) ∧ w'.cell? ⟨w.heap.size + 1, 0, none⟩ = some (.int .i64 m1) ∧ w'.cell? ⟨w.heap.size + 1, 1, none⟩ = some (.slice o1 s.length c1)) [] (by kernel_rfl) ?_
    have hHeld : (fun w' : World => w'.cell? ⟨w.heap.size, 0, none⟩ = some (.int .i64 m) ∧ w'.cell? ⟨w.heap.size, 1, none⟩ = some (.slice o t.length c) ∧ w'.cell? ⟨w.heap.size + 1, 0, none⟩ = some (.int .i64 m1) ∧ w'.cell? ⟨w.heap.size + 1, 1, none⟩ = some (.slice o1 s.length c1)) w0.drew := by go_keep
    refine' wpAnyK_takeL (i := 0) (v := _) rfl (by kernel_rfl) (by kernel_rfl) (by kernel_rfl) (by kernel_rfl) (fun _ _ _ h => h) (Or.inl ⟨by rfl, ?yT9⟩) hHeld ?rT9
    case yT9 => (intro w' hSw; (try dsimp only at hSw); go_simp; try with_reducible rfl)
    try simp only [List.getElem_toArray, List.getElem_cons_zero, List.getElem_cons_succ, Act.put, List.setIfInBounds_toArray, List.set_cons_zero, List.set_cons_succ]
    refine' wpAnyK_takeL (i := 1) (v := _) rfl (by kernel_rfl) (by kernel_rfl) (by kernel_rfl) (by kernel_rfl) (fun _ _ _ h => h) (Or.inl ⟨by rfl, ?yT10⟩) hHeld ?rT10
    case yT10 => (intro w' hSw; (try dsimp only at hSw); go_simp; try with_reducible rfl)
    try simp only [List.getElem_toArray, List.getElem_cons_zero, List.getElem_cons_succ, Act.put, List.setIfInBounds_toArray, List.set_cons_zero, List.set_cons_succ]
    refine' wpAnyK_takeL (i := 2) (v := _) rfl (by kernel_rfl) (by kernel_rfl) (by kernel_rfl) (by kernel_rfl) (fun _ _ _ h => h) (Or.inl ⟨by rfl, ?yT11⟩) hHeld ?rT11
    case yT11 => (intro w' hSw; (try dsimp only at hSw); go_simp; try with_reducible rfl)
    try simp only [List.getElem_toArray, List.getElem_cons_zero, List.getElem_cons_succ, Act.put, List.setIfInBounds_toArray, List.set_cons_zero, List.set_cons_succ]
    refine wpAnyK_oneL (i := 3) rfl (by kernel_rfl) (fun K hK => ?_)
    go_simp
    go_at_call 71
    refine (degreeP_c m o t.length c _ (by unfold maxLen; exact hml)).mono ?_
    rintro e wd1 ⟨rfl, hbd1⟩
    have hd1 : Below w0.heap.size w0 wd1 := (by (repeat (first | exact Below.refl _ _ | (refine Below.setCell ?_ (by first | (simp; done) | (simp; omega) | omega) _) | (refine Below.alloc ?_ (by first | (simp; done) | (simp; omega) | omega) _) | (refine below_drewN ?_ _) | (refine Below.drew ?_) | (refine Below.trans ?_ (Below.mono hbd1 (by first | (simp; done) | (simp; omega) | omega))))))
    have hsd1 := hd1.size
    have hsz1_ := hbd1.size
    (try simp at hsz1_)
    obtain ⟨f1_a, f1_b⟩ := ((X0).below hd1 (Nat.le_refl _))
    obtain ⟨f1_c, f1_d⟩ := ((Y0).below hd1 (Nat.le_refl _))
    go_wp2_with fail
    clear hHeld
    have hHeld : (fun w' : World => w'.cell? ⟨w.heap.size, 0, none⟩ = some (.int .i64 m) ∧ w'.cell? ⟨w.heap.size, 1, none⟩ = some (.slice o t.length c) ∧ w'.cell? ⟨w.heap.size + 1, 0, none⟩ = some (.int .i64 m1) ∧ w'.cell? ⟨w.heap.size + 1, 1, none⟩ = some (.slice o1 s.length c1)) wd1 := by go_keep
    refine hK.out _ _ (fun _ => hHeld) ?_
    clear hK K
    try simp only [List.getElem_toArray, List.getElem_cons_zero, List.getElem_cons_succ, Act.put, List.setIfInBounds_toArray, List.set_cons_zero, List.set_cons_succ]
    refine' wpAnyK_takeL (i := 4) (v := _) rfl (by kernel_rfl) (by kernel_rfl) (by kernel_rfl) (by kernel_rfl) (fun _ _ _ h => h) (Or.inl ⟨by rfl, ?yT12⟩) hHeld ?rT12
    case yT12 => (intro w' hSw; (try dsimp only at hSw); go_simp; try with_reducible rfl)
    try simp only [List.getElem_toArray, List.getElem_cons_zero, List.getElem_cons_succ, Act.put, List.setIfInBounds_toArray, List.set_cons_zero, List.set_cons_succ]
    refine wpAnyK_oneL (i := 5) rfl (by kernel_rfl) (fun K hK => ?_)
    go_simp
    go_at_call 101
    refine (searchable_c m _ t m1 _ s _ (t.length - 2) _ ((hv0).below (by (repeat (first | exact Below.refl _ _ | (refine Below.setCell ?_ (by first | (simp; done) | (simp; omega) | omega) _) | (refine Below.alloc ?_ (by first | (simp; done) | (simp; omega) | omega) _) | (refine below_drewN ?_ _) | (refine Below.drew ?_) | (refine Below.trans ?_ (Below.mono hbd1 (by first | (simp; done) | (simp; omega) | omega)))))) (Nat.le_refl _)) ((hu0).below (by (repeat (first | exact Below.refl _ _ | (refine Below.setCell ?_ (by first | (simp; done) | (simp; omega) | omega) _) | (refine Below.alloc ?_ (by first | (simp; done) | (simp; omega) | omega) _) | (refine below_drewN ?_ _) | (refine Below.drew ?_) | (refine Below.trans ?_ (Below.mono hbd1 (by first | (simp; done) | (simp; omega) | omega)))))) (Nat.le_refl _)) HD.out).mono ?_
    rintro e wd2 ⟨hq2, hbd2⟩
    rw [HC.out] at hq2; subst hq2
    have hd2 : Below w0.heap.size w0 wd2 := (by (repeat (first | exact Below.refl _ _ | (refine Below.setCell ?_ (by first | (simp; done) | (simp; omega) | omega) _) | (refine Below.alloc ?_ (by first | (simp; done) | (simp; omega) | omega) _) | (refine below_drewN ?_ _) | (refine Below.drew ?_) | (refine Below.trans ?_ (Below.mono hbd1 (by first | (simp; done) | (simp; omega) | omega))) | (refine Below.trans ?_ (Below.mono hbd2 (by first | (simp; done) | (simp; omega) | omega))))))
    have hsd2 := hd2.size
    have hsz2_ := hbd2.size
    (try simp at hsz2_)
    obtain ⟨f2_a, f2_b⟩ := ((X0).below hd2 (Nat.le_refl _))
    obtain ⟨f2_c, f2_d⟩ := ((Y0).below hd2 (Nat.le_refl _))
    go_wp2_with fail
    clear hHeld
    have hHeld : (fun w' : World => w'.cell? ⟨w.heap.size, 0, none⟩ = some (.int .i64 m) ∧ w'.cell? ⟨w.heap.size, 1, none⟩ = some (.slice o t.length c) ∧ w'.cell? ⟨w.heap.size + 1, 0, none⟩ = some (.int .i64 m1) ∧ w'.cell? ⟨w.heap.size + 1, 1, none⟩ = some (.slice o1 s.length c1)) wd2 := by go_keep
    refine hK.out _ _ (fun _ => hHeld) ?_
    clear hK K
    try simp only [List.getElem_toArray, List.getElem_cons_zero, List.getElem_cons_succ, Act.put, List.setIfInBounds_toArray, List.set_cons_zero, List.set_cons_succ]
    refine wpAnyK_oneL (i := 6) rfl (by kernel_rfl) (fun K hK => ?_)
    go_simp
    (try go_wp2_with fail)
    refine hK.out _ _ (fun _ => hHeld) ?_
    clear hK K
    try simp only [List.getElem_toArray, List.getElem_cons_zero, List.getElem_cons_succ, Act.put, List.setIfInBounds_toArray, List.set_cons_zero, List.set_cons_succ]
    refine wpAnyK_done (by kernel_rfl) ?_ _
    have R1 := R0.below hd2 (Nat.le_refl _)
    have B1 := B0.trans (hd2.mono B0s)
    (obtain ⟨⟨r0, r1⟩, rf⟩ := id R1; go_wp2; exact bodyPost_ret (v := .tuple #[.agg #[.int .i64 0, .slice none 0 0], .int .i64 cc]) (by simp [results, Try.results46, go_sem, r0, r1]) rfl ⟨_, rfl, OwI.nil _ _, (by (repeat (first | exact Below.refl _ _ | (refine Below.setCell ?_ (by first | (simp; done) | (simp; omega) | omega) _) | (refine Below.alloc ?_ (by first | (simp; done) | (simp; omega) | omega) _) | (refine below_drewN ?_ _) | (refine Below.drew ?_) | (refine Below.trans ?_ (Below.mono B1 (by first | (simp; done) | (simp; omega) | omega)))))), by simp [SR.bad]⟩)
end Go.Proofs.Ytdnkadlondediaa
