/- Lemmas. -/
import Derived.Test.YtfpphfjlpgefaaaQAM16
import Derived.Test.YtfpphfjlpgefaaaQAM14
import Derived.Test.YtfpphfjlpgefaaaQAM17
import Derived.Test.YtfpphfjlpgefaaaQAG2
import Derived.ProofKit
import Derived.Lib.SmallJoins
import Derived.Deep.Matrix
set_option linter.unusedSimpArgs false
set_option linter.unusedVariables false
namespace Go.Proofs.Ytfpphfjlpgefaaa
open Go.RowKit

structure QR where
  xs : List (Int × List Int)
  code : Int
def allQR (m : Int) (t : List (List Int)) (m1 : Int) (s : List (List Int)) : QR := ⟨(allHR m t m1 s).xss.map (fun x => (m, x)), (allHR m t m1 s).code⟩
theorem allC_row {m d : Nat} : ∀ {pre x : List Int}, x ∈ allC m d pre → x.length = pre.length + d := by
  induction d with
  | zero => intro pre x h; simp [allC] at h; rw [h]; rfl
  | succ d ih =>
    intro pre x h
    unfold allC at h
    rw [List.mem_flatMap] at h
    obtain ⟨i, -, h⟩ := h
    have := ih h
    simp at this
    omega
theorem allQ_num (m : Int) (t : List (List Int)) (m1 : Int) (s : List (List Int)) : numQ (allQR m t m1 s).xs ≤ 1048576 := by
  have hl := allHR_len m t m1 s
  have h := numQ_map (m := m) (n := 11) (xss := (allHR m t m1 s).xss) (fun x hx => by
    unfold allHR at hx
    by_cases hc : twoL m t m1 s = 0
    · rw [if_pos hc] at hx
      have hn := pla_n (lawB_t (twoL_0 hc).1).1
      split at hx
      · simp at hx
      · have := allC_row (List.mem_filter.1 hx).1
        simp at this
        omega
    · rw [if_neg hc] at hx; simp at hx)
  show numQ ((allHR m t m1 s).xss.map _) ≤ _
  omega
def QEnd (w w' : World) (r : QR) (e : Ending) : Prop :=
  ∃ v', e = .returned (.tuple #[v', .int .i64 r.code]) ∧ OwP w' w.heap.size (fun _ => False) v' r.xs ∧ Below w.heap.size w w' ∧ numQ r.xs ≤ 1048576
def QRd (w w' : World) (r : QR) (e : Ending) : Prop :=
  ∃ v', e = .returned (.tuple #[v', .int .i64 r.code]) ∧ Rds w.heap.size w'.heap.size w' (fun x => RdM x v' r.xs) ∧ Below w.heap.size w w' ∧ numQ r.xs ≤ 1048576
theorem OwP.none (w : World) (B : Nat) (X : Nat → Prop) : OwP w B X (.slice none 0 0) [] := ⟨[], rfl, World.ownsRow_nil _ _ _ _, by simp, by simp, by simp, by simp [Value.ownBlock], by simp⟩

set_option maxHeartbeats 400000 in
set_option maxRecDepth 100000 in
theorem AllHomomorphisms_c (m : Int) (v : Value) (t : List (List Int)) (m1 : Int) (u : Value) (s : List (List Int)) (w : World) (hv : RdT w v t) (hu : RdT w u s) :
    Calls Try.prog 7 #[.agg #[.int .i64 m, v], .agg #[.int .i64 m1, u]] w fun e w' => QEnd w w' (allQR m t m1 s) e := by
  obtain ⟨o, c, rfl, hmt, -⟩ := id hv
  obtain ⟨o1, c1, rfl, -, -⟩ := id hu
  have hml := hmt.1
  clear hmt
  have hsc : schC m t m1 s (t.length - 1) = (allHR m t m1 s).code := by
    unfold schC allHR
    split
    · split <;> rfl
    · rfl
  have hnum := allQ_num m t m1 s
  by_cases hc : schC m t m1 s (t.length - 1) = 0
  · have hcc : ((0 : Int) != 0) = false := by simp
    obtain ⟨ht0, hl0⟩ : twoL m t m1 s = 0 ∧ largeB m (t.length - 1) 1 = false := by
      unfold schC at hc
      split at hc
      · rename_i h
        refine ⟨h, ?_⟩
        cases hl : largeB m (t.length - 1) 1
        · rfl
        · rw [hl] at hc; simp at hc
      · contradiction
    obtain ⟨a1, a2, e1, l1⟩ := twoL_0 ht0
    subst e1
    have hn := pla_n (lawB_t a1).1
    have hm := pla_m (lawB_t a1).1
    have ht : PlaT m1 t.length t := ⟨rfl, pla_row (lawB_t a1).1⟩
    have hs : PlaT m1 t.length s := ⟨l1, by have := pla_row (lawB_t a2).1; exact this⟩
    have hf := few (by omega) hl0
    have hR2 : allQR m1 t m1 s = ⟨(homsL m1 t.length t s (t.length - 1) [0]).map (fun r => (m1, r)), 0⟩ := by
      unfold allQR allHR
      rw [if_pos ht0, hl0]; rfl
    rw [hR2] at hnum ⊢
    have HNM := Lib.hid hnum
    clear hnum
    have HC := Lib.hid hc
    have HT := Lib.hid ht
    have HS := Lib.hid hs
    have hu2 : RdT w (.slice o1 t.length c1) s := by rw [l1] at hu; exact hu
    rw [l1]
    clear hsc hc hR2 a1 a2 ht hs hu l1 ht0 hl0
    go_enter Try.func7, Try.ntmps7
    go_wp2_with fail
    (have X0 := ((RB2.mk1 w  (.int .i64 m1) (.slice o t.length c) 29).1).below (w' := ((w.alloc (.cells #[.int .i64 m1, .slice o t.length c] 29)).alloc (.cells #[.int .i64 m1, .slice o1 t.length c1] 29))) (by (repeat (first | exact bR _ _ | (refine bS ?_ _) | (refine bA ?_ _) | (refine bN ?_ _) | (refine bD ?_)))) (Nat.le_refl _); have Y0 := ((RB2.mk2 w (.cells #[.int .i64 m1, .slice o t.length c] 29) (.int .i64 m1) (.slice o1 t.length c1) 29).1).below (w' := ((w.alloc (.cells #[.int .i64 m1, .slice o t.length c] 29)).alloc (.cells #[.int .i64 m1, .slice o1 t.length c1] 29))) (by (repeat (first | exact bR _ _ | (refine bS ?_ _) | (refine bA ?_ _) | (refine bN ?_ _) | (refine bD ?_)))) (Nat.le_refl _); have B0 : Below w.heap.size w ((w.alloc (.cells #[.int .i64 m1, .slice o t.length c] 29)).alloc (.cells #[.int .i64 m1, .slice o1 t.length c1] 29)) := (by (repeat (first | exact bR _ _ | (refine bS ?_ _) | (refine bA ?_ _) | (refine bN ?_ _) | (refine bD ?_)))); have hv0 := hv.below (w' := ((w.alloc (.cells #[.int .i64 m1, .slice o t.length c] 29)).alloc (.cells #[.int .i64 m1, .slice o1 t.length c1] 29))) (by (repeat (first | exact bR _ _ | (refine bS ?_ _) | (refine bA ?_ _) | (refine bN ?_ _) | (refine bD ?_)))) (Nat.le_refl _); have hu20 := hu2.below (w' := ((w.alloc (.cells #[.int .i64 m1, .slice o t.length c] 29)).alloc (.cells #[.int .i64 m1, .slice o1 t.length c1] 29))) (by (repeat (first | exact bR _ _ | (refine bS ?_ _) | (refine bA ?_ _) | (refine bN ?_ _) | (refine bD ?_)))) (Nat.le_refl _); generalize (w.alloc (.cells #[.int .i64 m1, .slice o t.length c] 29)).alloc (.cells #[.int .i64 m1, .slice o1 t.length c1] 29) = w0 at X0 Y0 B0 hv0 hu20 ⊢)
    have B0s := B0.size
    go_wp2_with fail
    have hd0 : Below w0.heap.size w0 w0.drew := (Below.refl _ _).drew
    have hsd0 := hd0.size
    obtain ⟨f0_a, f0_b⟩ := ((X0).below (Below.refl w0.heap.size w0) (Nat.le_refl _))
    obtain ⟨f0_c, f0_d⟩ := ((Y0).below (Below.refl w0.heap.size w0) (Nat.le_refl _))
    refine wp_region_K (S := fun w' => w'.cell? ⟨w.heap.size, 0, none⟩ = some (.int .i64 m1) ∧ w'.cell? ⟨w.heap.size, 1, none⟩ = some (.slice o t.length c) ∧ w'.cell? ⟨w.heap.size + 1, 0, none⟩ = some (.int .i64 m1) ∧ w'.cell? ⟨w.heap.size + 1, 1, none⟩ = some (.slice o1 t.length c1)) [] (by kernel_rfl) ?_
    have hHeld : (fun w' : World => w'.cell? ⟨w.heap.size, 0, none⟩ = some (.int .i64 m1) ∧ w'.cell? ⟨w.heap.size, 1, none⟩ = some (.slice o t.length c) ∧ w'.cell? ⟨w.heap.size + 1, 0, none⟩ = some (.int .i64 m1) ∧ w'.cell? ⟨w.heap.size + 1, 1, none⟩ = some (.slice o1 t.length c1)) w0.drew := by go_keep
    refine' wpAnyK_takeL (i := 0) (v := _) rfl (by kernel_rfl) (by kernel_rfl) (by kernel_rfl) (by kernel_rfl) (fun _ _ _ h => h) (Or.inl ⟨by rfl, ?yT1⟩) hHeld ?rT1
    case yT1 => (intro w' hSw; (try dsimp only at hSw); go_simp; try with_reducible rfl)
    try simp only [List.getElem_toArray, List.getElem_cons_zero, List.getElem_cons_succ, Act.put, List.setIfInBounds_toArray, List.set_cons_zero, List.set_cons_succ]
    refine' wpAnyK_takeL (i := 1) (v := _) rfl (by kernel_rfl) (by kernel_rfl) (by kernel_rfl) (by kernel_rfl) (fun _ _ _ h => h) (Or.inl ⟨by rfl, ?yT2⟩) hHeld ?rT2
    case yT2 => (intro w' hSw; (try dsimp only at hSw); go_simp; try with_reducible rfl)
    try simp only [List.getElem_toArray, List.getElem_cons_zero, List.getElem_cons_succ, Act.put, List.setIfInBounds_toArray, List.set_cons_zero, List.set_cons_succ]
    refine' wpAnyK_takeL (i := 2) (v := _) rfl (by kernel_rfl) (by kernel_rfl) (by kernel_rfl) (by kernel_rfl) (fun _ _ _ h => h) (Or.inl ⟨by rfl, ?yT3⟩) hHeld ?rT3
    case yT3 => (intro w' hSw; (try dsimp only at hSw); go_simp; try with_reducible rfl)
    try simp only [List.getElem_toArray, List.getElem_cons_zero, List.getElem_cons_succ, Act.put, List.setIfInBounds_toArray, List.set_cons_zero, List.set_cons_succ]
    refine wpAnyK_oneL (i := 3) rfl (by kernel_rfl) (fun K hK => ?_)
    go_simp
    go_at_call 18
    refine (degreeP_c m1 o t.length c _ hml).mono ?_
    rintro e wd1 ⟨rfl, hbd1⟩
    have hd1 : Below w0.heap.size w0 wd1 := (by (repeat (first | exact bR _ _ | (refine bS ?_ _) | (refine bA ?_ _) | (refine bN ?_ _) | (refine bD ?_) | (refine bT ?_ hbd1))))
    have hsd1 := hd1.size
    have hsz1_ := hbd1.size
    (try simp at hsz1_)
    obtain ⟨f1_a, f1_b⟩ := ((X0).below hd1 (Nat.le_refl _))
    obtain ⟨f1_c, f1_d⟩ := ((Y0).below hd1 (Nat.le_refl _))
    go_wp2_with fail
    clear hHeld
    have hHeld : (fun w' : World => w'.cell? ⟨w.heap.size, 0, none⟩ = some (.int .i64 m1) ∧ w'.cell? ⟨w.heap.size, 1, none⟩ = some (.slice o t.length c) ∧ w'.cell? ⟨w.heap.size + 1, 0, none⟩ = some (.int .i64 m1) ∧ w'.cell? ⟨w.heap.size + 1, 1, none⟩ = some (.slice o1 t.length c1)) wd1 := by go_keep
    refine hK.out _ _ (fun _ => hHeld) ?_
    clear hK K
    try simp only [List.getElem_toArray, List.getElem_cons_zero, List.getElem_cons_succ, Act.put, List.setIfInBounds_toArray, List.set_cons_zero, List.set_cons_succ]
    refine wpAnyK_oneL (i := 4) rfl (by kernel_rfl) (fun K hK => ?_)
    go_simp
    go_at_call 17
    refine (searchable_c m1 _ t m1 _ s _ (t.length - 1) _ ((hv0).below (by (repeat (first | exact bR _ _ | (refine bS ?_ _) | (refine bA ?_ _) | (refine bN ?_ _) | (refine bD ?_) | (refine bT ?_ hbd1)))) (Nat.le_refl _)) ((hu20).below (by (repeat (first | exact bR _ _ | (refine bS ?_ _) | (refine bA ?_ _) | (refine bN ?_ _) | (refine bD ?_) | (refine bT ?_ hbd1)))) (Nat.le_refl _)) (fun _ => ⟨by omega, by omega⟩)).mono ?_
    rintro e wd2 ⟨hq2, hbd2⟩
    rw [HC.out] at hq2; subst hq2
    have hd2 : Below w0.heap.size w0 wd2 := (by (repeat (first | exact bR _ _ | (refine bS ?_ _) | (refine bA ?_ _) | (refine bN ?_ _) | (refine bD ?_) | (refine bT ?_ hbd1) | (refine bT ?_ hbd2))))
    have hsd2 := hd2.size
    have hsz2_ := hbd2.size
    (try simp at hsz2_)
    obtain ⟨f2_a, f2_b⟩ := ((X0).below hd2 (Nat.le_refl _))
    obtain ⟨f2_c, f2_d⟩ := ((Y0).below hd2 (Nat.le_refl _))
    go_wp2_with fail
    clear hHeld
    have hHeld : (fun w' : World => w'.cell? ⟨w.heap.size, 0, none⟩ = some (.int .i64 m1) ∧ w'.cell? ⟨w.heap.size, 1, none⟩ = some (.slice o t.length c) ∧ w'.cell? ⟨w.heap.size + 1, 0, none⟩ = some (.int .i64 m1) ∧ w'.cell? ⟨w.heap.size + 1, 1, none⟩ = some (.slice o1 t.length c1)) wd2 := by go_keep
    refine hK.out _ _ (fun _ => hHeld) ?_
    clear hK K
    try simp only [List.getElem_toArray, List.getElem_cons_zero, List.getElem_cons_succ, Act.put, List.setIfInBounds_toArray, List.set_cons_zero, List.set_cons_succ]
    refine wpAnyK_oneL (i := 5) rfl (by kernel_rfl) (fun K hK => ?_)
    go_simp
    (try go_wp2_with fail)
    refine hK.out _ _ (fun _ => hHeld) ?_
    clear hK K
    try simp only [List.getElem_toArray, List.getElem_cons_zero, List.getElem_cons_succ, Act.put, List.setIfInBounds_toArray, List.set_cons_zero, List.set_cons_succ]
    refine wpAnyK_done (by kernel_rfl) ?_ _
    have hv2 := hv0.below hd2 (Nat.le_refl _)
    have hu22 := hu20.below hd2 (Nat.le_refl _)
    have B2 := B0.trans (hd2.mono B0s)
    go_wp2_with fail
    refine (homomorphisms_c m1 t.length _ _ t s _ (by omega) (by omega) (by omega) (by omega) HT.out HS.out hv2 hu22 hf).mono ?_
    rintro e w3 ⟨vl, rfl, hol, hb3⟩
    obtain ⟨ol, cl, rfl⟩ := hol.shape
    rw [List.length_map] at hol ⊢
    have B3 := B2.trans (hb3.mono B2.size)
    go_wp2
    go_ret2
    exact ⟨_, rfl, hol.mono (by have := B2.size; omega), B3, HNM.out⟩
  · have hR2 : allQR m t m1 s = ⟨[], schC m t m1 s (t.length - 1)⟩ := by
      rw [hsc] at hc ⊢
      unfold allQR
      unfold allHR at hc ⊢
      split
      · rename_i h
        rw [if_pos h] at hc
        cases hl : largeB m (t.length - 1) 1
        · rw [hl] at hc; exact absurd rfl hc
        · rfl
      · rfl
    rw [hR2]
    clear hnum
    clear hsc hR2
    obtain ⟨cc, hcc0⟩ : ∃ cc, schC m t m1 s (t.length - 1) = cc := ⟨_, rfl⟩
    rw [hcc0] at hc ⊢
    have HC := Lib.hid hcc0
    clear hcc0
    have hcc : (cc != 0) = true := by simpa using hc
    clear hc
    unfold maxLen at hml
    have HD := Lib.hid (show twoL m t m1 s = 0 → (t.length : Int) - 1 = ((t.length - 1 : Nat) : Int) ∧ t.length - 1 ≤ 1000 from fun h => by have := pla_n (lawB_t (twoL_0 h).1).1; omega)
    go_enter Try.func7, Try.ntmps7
    go_wp2_with fail
    (have X0 := ((RB2.mk1 w  (.int .i64 m) (.slice o t.length c) 29).1).below (w' := ((w.alloc (.cells #[.int .i64 m, .slice o t.length c] 29)).alloc (.cells #[.int .i64 m1, .slice o1 s.length c1] 29))) (by (repeat (first | exact bR _ _ | (refine bS ?_ _) | (refine bA ?_ _) | (refine bN ?_ _) | (refine bD ?_)))) (Nat.le_refl _); have Y0 := ((RB2.mk2 w (.cells #[.int .i64 m, .slice o t.length c] 29) (.int .i64 m1) (.slice o1 s.length c1) 29).1).below (w' := ((w.alloc (.cells #[.int .i64 m, .slice o t.length c] 29)).alloc (.cells #[.int .i64 m1, .slice o1 s.length c1] 29))) (by (repeat (first | exact bR _ _ | (refine bS ?_ _) | (refine bA ?_ _) | (refine bN ?_ _) | (refine bD ?_)))) (Nat.le_refl _); have B0 : Below w.heap.size w ((w.alloc (.cells #[.int .i64 m, .slice o t.length c] 29)).alloc (.cells #[.int .i64 m1, .slice o1 s.length c1] 29)) := (by (repeat (first | exact bR _ _ | (refine bS ?_ _) | (refine bA ?_ _) | (refine bN ?_ _) | (refine bD ?_)))); have hv0 := hv.below (w' := ((w.alloc (.cells #[.int .i64 m, .slice o t.length c] 29)).alloc (.cells #[.int .i64 m1, .slice o1 s.length c1] 29))) (by (repeat (first | exact bR _ _ | (refine bS ?_ _) | (refine bA ?_ _) | (refine bN ?_ _) | (refine bD ?_)))) (Nat.le_refl _); have hu0 := hu.below (w' := ((w.alloc (.cells #[.int .i64 m, .slice o t.length c] 29)).alloc (.cells #[.int .i64 m1, .slice o1 s.length c1] 29))) (by (repeat (first | exact bR _ _ | (refine bS ?_ _) | (refine bA ?_ _) | (refine bN ?_ _) | (refine bD ?_)))) (Nat.le_refl _); generalize (w.alloc (.cells #[.int .i64 m, .slice o t.length c] 29)).alloc (.cells #[.int .i64 m1, .slice o1 s.length c1] 29) = w0 at X0 Y0 B0 hv0 hu0 ⊢)
    have B0s := B0.size
    go_wp2_with fail
    have hd0 : Below w0.heap.size w0 w0.drew := (Below.refl _ _).drew
    have hsd0 := hd0.size
    obtain ⟨f0_a, f0_b⟩ := ((X0).below (Below.refl w0.heap.size w0) (Nat.le_refl _))
    obtain ⟨f0_c, f0_d⟩ := ((Y0).below (Below.refl w0.heap.size w0) (Nat.le_refl _))
    refine wp_region_K (S := fun w' => w'.cell? ⟨w.heap.size, 0, none⟩ = some (.int .i64 m) ∧ w'.cell? ⟨w.heap.size, 1, none⟩ = some (.slice o t.length c) ∧ w'.cell? ⟨w.heap.size + 1, 0, none⟩ = some (.int .i64 m1) ∧ w'.cell? ⟨w.heap.size + 1, 1, none⟩ = some (.slice o1 s.length c1)) [] (by kernel_rfl) ?_
    have hHeld : (fun w' : World => w'.cell? ⟨w.heap.size, 0, none⟩ = some (.int .i64 m) ∧ w'.cell? ⟨w.heap.size, 1, none⟩ = some (.slice o t.length c) ∧ w'.cell? ⟨w.heap.size + 1, 0, none⟩ = some (.int .i64 m1) ∧ w'.cell? ⟨w.heap.size + 1, 1, none⟩ = some (.slice o1 s.length c1)) w0.drew := by go_keep
    refine' wpAnyK_takeL (i := 0) (v := _) rfl (by kernel_rfl) (by kernel_rfl) (by kernel_rfl) (by kernel_rfl) (fun _ _ _ h => h) (Or.inl ⟨by rfl, ?yT4⟩) hHeld ?rT4
    case yT4 => (intro w' hSw; (try dsimp only at hSw); go_simp; try with_reducible rfl)
    try simp only [List.getElem_toArray, List.getElem_cons_zero, List.getElem_cons_succ, Act.put, List.setIfInBounds_toArray, List.set_cons_zero, List.set_cons_succ]
    refine' wpAnyK_takeL (i := 1) (v := _) rfl (by kernel_rfl) (by kernel_rfl) (by kernel_rfl) (by kernel_rfl) (fun _ _ _ h => h) (Or.inl ⟨by rfl, ?yT5⟩) hHeld ?rT5
    case yT5 => (intro w' hSw; (try dsimp only at hSw); go_simp; try with_reducible rfl)
    try simp only [List.getElem_toArray, List.getElem_cons_zero, List.getElem_cons_succ, Act.put, List.setIfInBounds_toArray, List.set_cons_zero, List.set_cons_succ]
    refine' wpAnyK_takeL (i := 2) (v := _) rfl (by kernel_rfl) (by kernel_rfl) (by kernel_rfl) (by kernel_rfl) (fun _ _ _ h => h) (Or.inl ⟨by rfl, ?yT6⟩) hHeld ?rT6
    case yT6 => (intro w' hSw; (try dsimp only at hSw); go_simp; try with_reducible rfl)
    try simp only [List.getElem_toArray, List.getElem_cons_zero, List.getElem_cons_succ, Act.put, List.setIfInBounds_toArray, List.set_cons_zero, List.set_cons_succ]
    refine wpAnyK_oneL (i := 3) rfl (by kernel_rfl) (fun K hK => ?_)
    go_simp
    go_at_call 18
    refine (degreeP_c m o t.length c _ (by unfold maxLen; exact hml)).mono ?_
    rintro e wd1 ⟨rfl, hbd1⟩
    have hd1 : Below w0.heap.size w0 wd1 := (by (repeat (first | exact bR _ _ | (refine bS ?_ _) | (refine bA ?_ _) | (refine bN ?_ _) | (refine bD ?_) | (refine bT ?_ hbd1))))
    have hsd1 := hd1.size
    have hsz1_ := hbd1.size
    (try simp at hsz1_)
    obtain ⟨f1_a, f1_b⟩ := ((X0).below hd1 (Nat.le_refl _))
    obtain ⟨f1_c, f1_d⟩ := ((Y0).below hd1 (Nat.le_refl _))
    go_wp2_with fail
    clear hHeld
    have hHeld : (fun w' : World => w'.cell? ⟨w.heap.size, 0, none⟩ = some (.int .i64 m) ∧ w'.cell? ⟨w.heap.size, 1, none⟩ = some (.slice o t.length c) ∧ w'.cell? ⟨w.heap.size + 1, 0, none⟩ = some (.int .i64 m1) ∧ w'.cell? ⟨w.heap.size + 1, 1, none⟩ = some (.slice o1 s.length c1)) wd1 := by go_keep
    refine hK.out _ _ (fun _ => hHeld) ?_
    clear hK K
    try simp only [List.getElem_toArray, List.getElem_cons_zero, List.getElem_cons_succ, Act.put, List.setIfInBounds_toArray, List.set_cons_zero, List.set_cons_succ]
    refine wpAnyK_oneL (i := 4) rfl (by kernel_rfl) (fun K hK => ?_)
    go_simp
    go_at_call 17
    refine (searchable_c m _ t m1 _ s _ (t.length - 1) _ ((hv0).below (by (repeat (first | exact bR _ _ | (refine bS ?_ _) | (refine bA ?_ _) | (refine bN ?_ _) | (refine bD ?_) | (refine bT ?_ hbd1)))) (Nat.le_refl _)) ((hu0).below (by (repeat (first | exact bR _ _ | (refine bS ?_ _) | (refine bA ?_ _) | (refine bN ?_ _) | (refine bD ?_) | (refine bT ?_ hbd1)))) (Nat.le_refl _)) HD.out).mono ?_
    rintro e wd2 ⟨hq2, hbd2⟩
    rw [HC.out] at hq2; subst hq2
    have hd2 : Below w0.heap.size w0 wd2 := (by (repeat (first | exact bR _ _ | (refine bS ?_ _) | (refine bA ?_ _) | (refine bN ?_ _) | (refine bD ?_) | (refine bT ?_ hbd1) | (refine bT ?_ hbd2))))
    have hsd2 := hd2.size
    have hsz2_ := hbd2.size
    (try simp at hsz2_)
    obtain ⟨f2_a, f2_b⟩ := ((X0).below hd2 (Nat.le_refl _))
    obtain ⟨f2_c, f2_d⟩ := ((Y0).below hd2 (Nat.le_refl _))
    go_wp2_with fail
    clear hHeld
    have hHeld : (fun w' : World => w'.cell? ⟨w.heap.size, 0, none⟩ = some (.int .i64 m) ∧ w'.cell? ⟨w.heap.size, 1, none⟩ = some (.slice o t.length c) ∧ w'.cell? ⟨w.heap.size + 1, 0, none⟩ = some (.int .i64 m1) ∧ w'.cell? ⟨w.heap.size + 1, 1, none⟩ = some (.slice o1 s.length c1)) wd2 := by go_keep
    refine hK.out _ _ (fun _ => hHeld) ?_
    clear hK K
    try simp only [List.getElem_toArray, List.getElem_cons_zero, List.getElem_cons_succ, Act.put, List.setIfInBounds_toArray, List.set_cons_zero, List.set_cons_succ]
    refine wpAnyK_oneL (i := 5) rfl (by kernel_rfl) (fun K hK => ?_)
    go_simp
    (try go_wp2_with fail)
    refine hK.out _ _ (fun _ => hHeld) ?_
    clear hK K
    try simp only [List.getElem_toArray, List.getElem_cons_zero, List.getElem_cons_succ, Act.put, List.setIfInBounds_toArray, List.set_cons_zero, List.set_cons_succ]
    refine wpAnyK_done (by kernel_rfl) ?_ _
    have B2 := B0.trans (hd2.mono B0s)
    go_wp2
    go_ret2
    exact ⟨_, rfl, OwP.none _ _ _, B2, by simp [numQ]⟩

set_option maxHeartbeats 1000000 in
set_option maxRecDepth 100000 in
theorem sAllHomomorphisms_c (m : Int) (v : Value) (t : List (List Int)) (m1 : Int) (u : Value) (s : List (List Int)) (w : World) (hv : RdT w v t) (hu : RdT w u s) :
    Calls Try.prog 5 #[.agg #[.int .i64 m, v], .agg #[.int .i64 m1, u]] w fun e w' => QRd w w' (allQR m t m1 s) e := by
  obtain ⟨o, c, rfl, -, -⟩ := id hv
  obtain ⟨o1, c1, rfl, -, -⟩ := id hu
  have hnum := allQ_num m t m1 s
  have HR := Lib.hid (show allQR m t m1 s = ⟨(allHR m t m1 s).xss.map (fun x => (m, x)), (allHR m t m1 s).code⟩ from rfl)
  have HA := Lib.hid (allR_0 m t m1 s)
  have hlen := allHR_len m t m1 s
  have hbad : (allHR m t m1 s).code ≠ 0 → (allHR m t m1 s).xss = [] := by
    intro hc
    unfold allHR at hc ⊢
    split
    · rename_i h
      rw [if_pos h] at hc
      cases hl : largeB m (t.length - 1) 1
      · rw [hl] at hc; exact absurd rfl hc
      · rfl
    · rfl
  rw [HR.out] at hnum ⊢
  clear HR
  generalize allHR m t m1 s = r at hnum HA hlen hbad ⊢
  obtain ⟨rx, rc⟩ := r
  simp only at hnum hlen hbad ⊢
  go_enter Try.func5, Try.ntmps5
  go_wp2_with fail
  (have X0 := ((RB2.mk1 w  (.int .i64 m) (.slice o t.length c) 29).1).below (w' := ((w.alloc (.cells #[.int .i64 m, .slice o t.length c] 29)).alloc (.cells #[.int .i64 m1, .slice o1 s.length c1] 29))) (by (repeat (first | exact bR _ _ | (refine bS ?_ _) | (refine bA ?_ _) | (refine bN ?_ _) | (refine bD ?_)))) (Nat.le_refl _); have Y0 := ((RB2.mk2 w (.cells #[.int .i64 m, .slice o t.length c] 29) (.int .i64 m1) (.slice o1 s.length c1) 29).1).below (w' := ((w.alloc (.cells #[.int .i64 m, .slice o t.length c] 29)).alloc (.cells #[.int .i64 m1, .slice o1 s.length c1] 29))) (by (repeat (first | exact bR _ _ | (refine bS ?_ _) | (refine bA ?_ _) | (refine bN ?_ _) | (refine bD ?_)))) (Nat.le_refl _); have B0 : Below w.heap.size w ((w.alloc (.cells #[.int .i64 m, .slice o t.length c] 29)).alloc (.cells #[.int .i64 m1, .slice o1 s.length c1] 29)) := (by (repeat (first | exact bR _ _ | (refine bS ?_ _) | (refine bA ?_ _) | (refine bN ?_ _) | (refine bD ?_)))); have hv0 := hv.below (w' := ((w.alloc (.cells #[.int .i64 m, .slice o t.length c] 29)).alloc (.cells #[.int .i64 m1, .slice o1 s.length c1] 29))) (by (repeat (first | exact bR _ _ | (refine bS ?_ _) | (refine bA ?_ _) | (refine bN ?_ _) | (refine bD ?_)))) (Nat.le_refl _); have hu0 := hu.below (w' := ((w.alloc (.cells #[.int .i64 m, .slice o t.length c] 29)).alloc (.cells #[.int .i64 m1, .slice o1 s.length c1] 29))) (by (repeat (first | exact bR _ _ | (refine bS ?_ _) | (refine bA ?_ _) | (refine bN ?_ _) | (refine bD ?_)))) (Nat.le_refl _); have HS0 := Lib.hid (show ((w.alloc (.cells #[.int .i64 m, .slice o t.length c] 29)).alloc (.cells #[.int .i64 m1, .slice o1 s.length c1] 29)).heap.size = w.heap.size + 1 + 1 by simp); generalize (w.alloc (.cells #[.int .i64 m, .slice o t.length c] 29)).alloc (.cells #[.int .i64 m1, .slice o1 s.length c1] 29) = w0 at X0 Y0 B0 hv0 hu0 HS0 ⊢)
  obtain ⟨x0, x1⟩ := id X0
  obtain ⟨y0, y1⟩ := id Y0
  go_wp2_with fail
  have hzb : Below w0.heap.size w0 (w0.alloc (.cells #[.int .i64 0] 2)) := (by (repeat (first | exact bR _ _ | (refine bS ?_ _) | (refine bA ?_ _) | (refine bN ?_ _) | (refine bD ?_))))
  refine (l06All_d m _ t m1 _ s _ [0] _ 20000 _ (by omega) (hv0.below hzb (Nat.le_refl _)) (hu0.below hzb (Nat.le_refl _)) (lit0_rd w0 HS0.out) (by simp) (by simp) (by simp [at0]) (by simp) (by omega) (by omega)).mono ?_
  rw [HA.out]
  rintro e w1 ⟨vl, rfl, how, hb⟩
  have hb1 : Below w0.heap.size w0 w1 := (by (repeat (first | exact bR _ _ | (refine bS ?_ _) | (refine bA ?_ _) | (refine bN ?_ _) | (refine bD ?_) | (refine bT ?_ hb))))
  have B0s := B0.size
  have B1 := B0.trans (hb1.mono B0s)
  have how1 : OwS w1 w0.heap.size vl rx := how.mono (by simp)
  have X1 := X0.below hb1 (Nat.le_refl _)
  obtain ⟨ol, cl, rfl⟩ := how1.shape
  clear HS0 x0 x1 y0 y1 hzb hb how
  by_cases hc : rc = 0
  · subst hc
    clear hbad
    obtain ⟨T, hT⟩ : ∃ T, T = w1.heap.size := ⟨_, rfl⟩
    have hTw : w.heap.size ≤ T := by have := B1.size; omega
    have hXT : w.heap.size < T := by have := X0.lt; have := hb1.size; omega
    have hO0 : OwQ (w1.alloc (.cells #[] 41)) w.heap.size T (.slice (some ⟨w1.heap.size, 0, none⟩) 0 0) m (rx.take 0) := OwQ.nil w1 m (by omega)
    have hO0b : Below T w1 (w1.alloc (.cells #[] 41)) := by rw [hT]; exact (by (repeat (first | exact bR _ _ | (refine bS ?_ _) | (refine bA ?_ _) | (refine bN ?_ _) | (refine bD ?_))))
    go_wp2_with fail
    go_loopw [8, 9] (fun q i wr => ∃ (k : Nat) (ov : Option Addr) (cv : Nat), k ≤ rx.length ∧ i = .int .i64 k ∧ q = .slice ov k cv ∧ OwQ wr w.heap.size T (.slice ov k cv) m (rx.take k) ∧ Below T w1 wr) (fun _ i _ => rx.length - (intOf i).toNat)
    case atStart => exact ⟨0, _, _, Nat.zero_le _, rfl, rfl, hO0, hO0b⟩
    case round =>
      obtain ⟨k, ov, cv, hk, rfl, rfl, hO, hbr⟩ := hrel
      have hbrs := hbr.size
      by_cases hlt : k < rx.length
      · obtain ⟨g, rfl, hgl, hgl'⟩ := how1.row (by omega)
        have hrk : rx[k]? = some rx[k] := by simp [hlt]
        obtain ⟨oa, ca, hcx, hoa, -⟩ := how1.get hrk
        have hbr1 : Below w1.heap.size w1 wr := by rw [← hT]; exact hbr
        have hcr := keep_cell hbr1 (Nat.le_refl _) hcx
        have HU := Lib.hid ((((hoa.mono (show w.heap.size ≤ w0.heap.size by omega)).rds (by omega)).below hbr1))
        rw [← hT] at HU
        have Xr := X1.below hbr1 (Nat.le_refl _)
        obtain ⟨x0, x1⟩ := id Xr
        have HL := Lib.hid (show (rx.take k).length = k by rw [List.length_take]; omega)
        have HN := Lib.hid (show rx.take (k + 1) = rx.take k ++ [rx[k]] from List.take_succ_eq_append_getElem hlt)
        have i0 : (0 : Int) ≤ (k : Int) := by omega
        have i1 : (k : Int) < (rx.length : Int) := by omega
        clear hcx hrk
        have kx0 := x0
        have kcr := hcr
        go_wp2_with fail
        have hd0 : Below wr.heap.size wr wr.drew := (Below.refl _ _).drew
        have hsd0 := hd0.size
        have f0_a := keep_cell hd0 (Nat.le_refl _) kx0
        have f0_b := keep_cell hd0 (Nat.le_refl _) kcr
        refine wp_region_K (S := fun w' => w'.cell? ⟨w.heap.size, 0, none⟩ = some (.int .i64 m) ∧ w'.cell? ⟨g, k, none⟩ = some (.slice oa rx[k].length ca)) [0, 7, 8, 9, 10] (by kernel_rfl) ?_
        have hHeld : (fun w' : World => w'.cell? ⟨w.heap.size, 0, none⟩ = some (.int .i64 m) ∧ w'.cell? ⟨g, k, none⟩ = some (.slice oa rx[k].length ca)) wr.drew := by go_keep
        refine' wpAnyK_pureL (i := 0) (v := _) rfl (by kernel_rfl) (by kernel_rfl) (by kernel_rfl) (by kernel_rfl) (fun _ _ _ h => h) (Or.inl ⟨by rfl, ?yT7⟩) ?rT7
        case yT7 => (intro w' _; go_simp; try with_reducible rfl)
        try simp only [List.getElem_toArray, List.getElem_cons_zero, List.getElem_cons_succ, Act.put, List.setIfInBounds_toArray, List.set_cons_zero, List.set_cons_succ]
        refine' wpAnyK_takeL (i := 1) (v := _) rfl (by kernel_rfl) (by kernel_rfl) (by kernel_rfl) (by kernel_rfl) (fun _ _ _ h => h) (Or.inl ⟨by rfl, ?yT8⟩) hHeld ?rT8
        case yT8 => (intro w' hSw; (try dsimp only at hSw); go_simp; try with_reducible rfl)
        try simp only [List.getElem_toArray, List.getElem_cons_zero, List.getElem_cons_succ, Act.put, List.setIfInBounds_toArray, List.set_cons_zero, List.set_cons_succ]
        refine' wpAnyK_takeL (i := 2) (v := _) rfl (by kernel_rfl) (by kernel_rfl) (by kernel_rfl) (by kernel_rfl) (fun _ _ _ h => h) (Or.inl ⟨by rfl, ?yT9⟩) hHeld ?rT9
        case yT9 => (intro w' hSw; (try dsimp only at hSw); go_simp; try with_reducible rfl)
        try simp only [List.getElem_toArray, List.getElem_cons_zero, List.getElem_cons_succ, Act.put, List.setIfInBounds_toArray, List.set_cons_zero, List.set_cons_succ]
        refine' wpAnyK_takeL (i := 3) (v := _) rfl (by kernel_rfl) (by kernel_rfl) (by kernel_rfl) (by kernel_rfl) (fun _ _ _ h => h) (Or.inl ⟨by rfl, ?yT10⟩) hHeld ?rT10
        case yT10 => (intro w' hSw; (try dsimp only at hSw); go_simp; try with_reducible rfl)
        try simp only [List.getElem_toArray, List.getElem_cons_zero, List.getElem_cons_succ, Act.put, List.setIfInBounds_toArray, List.set_cons_zero, List.set_cons_succ]
        refine' wpAnyK_takeL (i := 4) (v := _) rfl (by kernel_rfl) (by kernel_rfl) (by kernel_rfl) (by kernel_rfl) (fun _ _ _ h => h) (Or.inl ⟨by rfl, ?yT11⟩) hHeld ?rT11
        case yT11 => (intro w' hSw; (try dsimp only at hSw); go_simp; try with_reducible rfl)
        try simp only [List.getElem_toArray, List.getElem_cons_zero, List.getElem_cons_succ, Act.put, List.setIfInBounds_toArray, List.set_cons_zero, List.set_cons_succ]
        refine' wpAnyK_takeL (i := 5) (v := _) rfl (by kernel_rfl) (by kernel_rfl) (by kernel_rfl) (by kernel_rfl) (fun _ _ _ h => h) (Or.inl ⟨by rfl, ?yT12⟩) hHeld ?rT12
        case yT12 => (intro w' hSw; (try dsimp only at hSw); go_simp; try with_reducible rfl)
        try simp only [List.getElem_toArray, List.getElem_cons_zero, List.getElem_cons_succ, Act.put, List.setIfInBounds_toArray, List.set_cons_zero, List.set_cons_succ]
        refine' wpAnyK_takeL (i := 6) (v := _) rfl (by kernel_rfl) (by kernel_rfl) (by kernel_rfl) (by kernel_rfl) (fun _ _ _ h => h) (Or.inl ⟨by rfl, ?yT13⟩) hHeld ?rT13
        case yT13 => (intro w' hSw; (try dsimp only at hSw); go_simp; try with_reducible rfl)
        try simp only [List.getElem_toArray, List.getElem_cons_zero, List.getElem_cons_succ, Act.put, List.setIfInBounds_toArray, List.set_cons_zero, List.set_cons_succ]
        refine wpAnyK_oneL (i := 7) rfl (by kernel_rfl) (fun K hK => ?_)
        go_simp
        go_at_call 15
        refine (l02Make_c m _ _ _ _).mono ?_
        rintro e wd1 ⟨rfl, hbd1⟩
        have hd1 : Below wr.heap.size wr wd1 := (by (repeat (first | exact bR _ _ | (refine bS ?_ _) | (refine bA ?_ _) | (refine bN ?_ _) | (refine bD ?_) | (refine bT ?_ hbd1))))
        have hsd1 := hd1.size
        have hsz1_ := hbd1.size
        (try simp at hsz1_)
        have f1_a := keep_cell hd1 (Nat.le_refl _) kx0
        have f1_b := keep_cell hd1 (Nat.le_refl _) kcr
        go_wp2_with fail
        refine hK.out _ _ (fun h => absurd h (by decide)) ?_
        clear hK K
        try simp only [List.getElem_toArray, List.getElem_cons_zero, List.getElem_cons_succ, Act.put, List.setIfInBounds_toArray, List.set_cons_zero, List.set_cons_succ]
        refine wpAnyK_oneL (i := 8) rfl (by kernel_rfl) (fun K hK => ?_)
        go_simp
        (try go_wp2_with fail)
        refine hK.out _ _ (fun h => absurd h (by decide)) ?_
        clear hK K
        try simp only [List.getElem_toArray, List.getElem_cons_zero, List.getElem_cons_succ, Act.put, List.setIfInBounds_toArray, List.set_cons_zero, List.set_cons_succ]
        refine wpAnyK_oneL (i := 9) rfl (by kernel_rfl) (fun K hK => ?_)
        obtain ⟨W, hW⟩ : ∃ W : World, W = wd1.alloc (.cells #[.int .i64 m, .slice oa rx[k].length ca] 41) := ⟨_, rfl⟩
        have hWb1 : Below wd1.heap.size wd1 W := (by rw [hW]; exact (by (repeat (first | exact bR _ _ | (refine bS ?_ _) | (refine bA ?_ _) | (refine bN ?_ _) | (refine bD ?_)))))
        have hTW : OwQ W w.heap.size T (.slice ov k cv) m (rx.take k) := (hO.below hd1).below hWb1
        have hU : Rds w.heap.size T W (fun x => RdI x (.slice oa rx[k].length ca) rx[k]) := (HU.out.below hd1).below hWb1
        have hC0 : W.cell? ⟨wd1.heap.size, 0, none⟩ = some (.int .i64 m) := (by rw [hW]; simp)
        have hC1 : W.cell? ⟨wd1.heap.size, 1, none⟩ = some (.slice oa rx[k].length ca) := (by rw [hW]; simp)
        have hWb := hd1.trans (hWb1.mono hsd1)
        have hWz := hWb.size
        rw [← hW]
        have HW := Lib.hid hW
        clear hW
        refine stQ W rfl _ _ rfl w.heap.size T (.slice ov k cv) m (rx.take k) rfl hTW (by omega) _ rx[k] wd1.heap.size rfl hC0 hC1 rfl hU (by rw [HL.out]; omega) ?_
        intro g2 cap w5 hO5 hb5
        have B5 := (hbr.trans (hWb.mono (by omega))).trans (hb5.mono (by omega))
        refine hK.out _ _ (fun h => absurd h (by decide)) ?_
        clear hK K
        try simp only [List.getElem_toArray, List.getElem_cons_zero, List.getElem_cons_succ, Act.put, List.setIfInBounds_toArray, List.set_cons_zero, List.set_cons_succ]
        refine wpAnyK_oneL (i := 10) rfl (by kernel_rfl) (fun K hK => ?_)
        go_simp
        (try go_wp2_with fail)
        refine hK.out _ _ (fun h => absurd h (by decide)) ?_
        clear hK K
        try simp only [List.getElem_toArray, List.getElem_cons_zero, List.getElem_cons_succ, Act.put, List.setIfInBounds_toArray, List.set_cons_zero, List.set_cons_succ]
        refine wpAnyK_done (by kernel_rfl) ?_ _
        go_wp2_with fail
        rw [HL.out, ← HN.out] at hO5
        go_wp2
        exact ⟨⟨k + 1, _, _, by omega, by go_num, rfl, hO5, B5⟩, by simp [intOf]; omega⟩
      · obtain rfl : k = rx.length := by omega
        rw [List.take_length] at hO
        have hR := hO.rds hTw
        go_wp2
        go_ret2
        exact ⟨_, rfl, hR, B1.trans (hbr.mono (by omega)), hnum⟩
  · have hcc : (rc != 0) = true := by simpa using hc
    obtain rfl : rx = [] := hbad hc
    clear hc hbad
    go_wp2
    go_ret2
    exact ⟨_, rfl, ⟨Nat.le_refl _, fun x _ => ⟨none, 0, rfl, ⟨Nat.zero_le _, Nat.zero_le _, fun _ => rfl⟩, fun k p hp => by simp at hp⟩⟩, B1, hnum⟩
end Go.Proofs.Ytfpphfjlpgefaaa
set_option linter.unusedSimpArgs false
set_option linter.unusedVariables false
namespace Go.Proofs.Ytfpphfjlpgefaaa
open Go.RowKit
open Go.ChangeShapes Go.WideShapes Go.ChangeAt Go.Joins

theorem Try.own : ownKnob Try.prog.godebug = none := by kernel_rfl
theorem Try.laidOut : laidOutB Try.prog = true := by kernel_rfl
theorem Try.cellsI : Try.prog.cellsOf 2 = 1 := by kernel_rfl

theorem trodAll_below {H : Type} {enc : TypeId × Value → H} {P : Program} {W W' : World} (hl : laidOutB P = true) :
    ∀ {ts : List TypeId} {vs : List Value} {ds : List (DataW H)} {ps : List MemPlace}, (ts.all fun t => P.readableRec t && decide (t < P.types.size)) = true →
      DataW.TrodAll enc P W 0 (fun _ => true) true ts vs ds ps → Below W.heap.size W W' → (∀ x ∈ ps, x.block < W.heap.size) → DataW.TrodAll enc P W' 0 (fun b => decide (b < W.heap.size)) true ts vs ds ps
  | [], [], [], _, _, h, _, _ => h
  | t :: ts, _ :: _, _ :: _, _, hT, ⟨p, q, h1, h2, e⟩, hb, hs => by
    simp only [List.all_cons, Bool.and_eq_true, decide_eq_true_eq] at hT
    exact ⟨p, q, Below.trod hl hT.1.1 hT.1.2 h1 hb (fun x hx => hs x (by rw [e]; exact List.mem_append_left _ hx)), trodAll_below hl hT.2 h2 hb (fun x hx => hs x (by rw [e]; exact List.mem_append_right _ hx)), e⟩

theorem Try.cellsL : Try.prog.cellsOf 39 = 1 := by kernel_rfl
theorem Try.cellsP : Try.prog.cellsOf 24 = 2 := by kernel_rfl
theorem cells_plain {w : World} {a : Addr} {n : Nat} {f : Nat → Value} (h : ∀ i, i < n → w.cell? (a.add i) = some (f i)) (hp : 0 < n) :
    ∃ b off, a = ⟨b, off, none⟩ ∧ ∀ j, j < n → w.cell? ⟨b, off + j, none⟩ = some (f j) := by
  obtain ⟨b, off, spot⟩ := a
  have hspot : spot = none := by simpa [Addr.add] using World.cell?_spot (h 0 hp)
  subst hspot
  exact ⟨b, off, rfl, fun j hj => by rw [← Go.WideShapes.add_plain]; exact h j hj⟩
theorem rdT_of_trod {H : Type} {enc : TypeId × Value → H} {W : World} {fuel : Nat} {v : Value} {y : DataW H × List MemPlace}
    (h : DataW.trod enc Try.prog W 0 (fun _ => true) true fuel 22 [v] = some y) : ∃ xss : List (List Int), RdT W v xss := by
  rcases Deep.open_int_rows Try.underlying22 Try.underlying39 Try.underlying2 Try.cellsL Try.cellsI h with ⟨hcs, hx⟩ | ⟨a, len, cap, A, L, C, Z, hcs, _, hl, hm, hx, hrow⟩
  · simp only [List.cons.injEq, and_true] at hcs
    subst hcs
    exact ⟨[], none, 0, rfl, ⟨Nat.zero_le _, Nat.zero_le _, fun _ => rfl⟩, fun k row hx => by simp at hx⟩
  · simp only [List.cons.injEq, and_true] at hcs
    subst hcs
    refine ⟨(List.range len).map (fun r => (Z r).take (L r)), some a, cap, by simp, ⟨by simp; omega, by simp; omega, fun h => by cases h⟩, fun k row hk => ?_⟩
    have hkl : k < len := by have := (List.getElem?_eq_some_iff.1 hk).1; simpa using this
    have hrk : row = (Z k).take (L k) := by simp [hkl] at hk; exact hk.symm
    obtain ⟨b, off, rfl, hc⟩ := cells_plain (fun i hi => (hrow i hi).1) (show 0 < cap by omega)
    obtain ⟨-, h1, h2, h3, -, h4, h5⟩ := hrow k (by omega)
    refine ⟨b, off, .slice (A k) (L k) (C k), rfl, hc k (by omega), A k, C k, by rw [hrk]; simp; omega, ⟨by rw [hrk]; simp; omega, by rw [hrk]; simp; omega, h4⟩, fun j x hx => ?_⟩
    rw [hrk] at hx
    have hj : j < L k := by have := (List.getElem?_eq_some_iff.1 hx).1; simp at this; omega
    cases hA : A k with
    | none => have := h4 hA; omega
    | some a' =>
      obtain ⟨-, h6⟩ := h5 a' hA
      obtain ⟨b', off', rfl, hc'⟩ := cells_plain (fun i hi => h6 i hi) (show 0 < C k by omega)
      refine ⟨b', off', rfl, ?_⟩
      rw [hc' j (by omega)]
      rw [List.getElem?_take, if_pos hj] at hx
      simp [List.getD, hx]
set_option maxRecDepth 100000 in
theorem open_plane {H : Type} {enc : TypeId × Value → H} {W : World} {r : Reach} {b0 : Nat} {v : Value} {d : DataW H} {ps : List MemPlace}
    (hv : Value.okWide Try.prog W r b0 24 v) (h : DataW.Trod enc Try.prog W 0 (fun _ => true) true 24 v d ps) :
    ∃ (m : Int) (u : Value) (xss : List (List Int)), v = .agg #[.int .i64 m, u] ∧ RdT W u xss := by
  obtain ⟨c0, c1, y0, y1, n, rfl, rfl, rfl, hy0, hy1⟩ := open_agg2 Try.underlying24 (by kernel_rfl) Try.cellsP hv h
  obtain ⟨a, e0, rfl, wa⟩ := DataW.trod_int Try.underlying2 hy0
  simp at e0
  subst e0
  obtain ⟨xss, hrd⟩ := rdT_of_trod hy1
  exact ⟨a, c1, xss, rfl, hrd⟩

end Go.Proofs.Ytfpphfjlpgefaaa
