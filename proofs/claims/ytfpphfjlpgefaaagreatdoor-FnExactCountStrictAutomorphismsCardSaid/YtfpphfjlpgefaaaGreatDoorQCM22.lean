/- Lemmas. -/
import Derived.Test.YtfpphfjlpgefaaaGreatDoorQCM21
import Derived.Test.YtfpphfjlpgefaaaGreatDoorQCM18
import Derived.Test.YtfpphfjlpgefaaaGreatDoorQCM16
set_option linter.unusedSimpArgs false
set_option linter.unusedVariables false
namespace Go.Proofs.YtfpphfjlpgefaaaGreatDoor
open Go.RowKit

set_option maxHeartbeats 400000 in
set_option maxRecDepth 100000 in
theorem strictCurves_c (m d : Int) (n : Nat) (fv : Value) (w : World) (Q : World → Prop) (hd : d + 1 = n) (h2 : 2 ≤ n) (hn : n ≤ 1000)
    (hcv : ∀ (g cz : Nat) (u : World), w.heap.size ≤ g → g < u.heap.size → Below w.heap.size w u → OwI u g (.slice (some ⟨g, 0, none⟩) n cz) (varL n) →
      Calls Tryz.prog 49 #[.agg #[.int .i64 m, .slice (some ⟨g, 0, none⟩) n cz], .int .i64 2, fv] u fun e w' => (∃ bb, e = .returned (.bool bb)) ∧ Q w') :
    Calls Tryz.prog 31 #[.int .i64 m, .int .i64 d, fv] w fun e w' => e = .returned (.tuple #[]) ∧ Q w' := by
  have HC := Lib.hid hcv
  clear hcv
  go_enter Tryz.func31, Tryz.ntmps31
  go_wp2_with fail
  refine (variable_c m d n _ hd h2 (by omega)).mono ?_
  rintro e w1 ⟨vz, rfl, how, hb⟩
  obtain ⟨oz, cz, rfl⟩ := how.shapeN (n := n) (varL_len _)
  obtain ⟨g, rfl, hgl, hgl'⟩ := how.row (by omega)
  go_wp2_with fail
  refine (HC.out g cz _ hgl hgl' hb how.raise).mono ?_
  rintro e w2 ⟨⟨bb, rfl⟩, hq⟩
  go_wp2
  exact bodyPost_end (v := .tuple #[]) (by simp [results, Tryz.results31, go_sem]) rfl ⟨rfl, hq⟩

theorem varL_2 {n : Nat} (h : 2 ≤ n) : (varL n).take 2 = [0, 1] := by
  obtain ⟨k, rfl⟩ : ∃ k, n = k + 2 := ⟨n - 2, by omega⟩
  simp [varL, List.replicate_succ]
end Go.Proofs.YtfpphfjlpgefaaaGreatDoor
set_option linter.unusedSimpArgs false
set_option linter.unusedVariables false
namespace Go.Proofs.YtfpphfjlpgefaaaGreatDoor
open Go.RowKit

theorem plaB_of {m : Int} {n : Nat} {t : List (List Int)} (hm : 2 ≤ m) (hm' : m ≤ 10000) (h2 : 2 ≤ n) (hn : n ≤ 11) (h : PlaT m n t) : plaB m t = true := by
  have hl := h.1
  simp only [plaB, modB, inB, Bool.and_eq_true, decide_eq_true_eq]
  refine ⟨⟨⟨hm, hm'⟩, by omega, by omega⟩, ?_⟩
  refine rowsB_t fun j hj => ?_
  obtain ⟨h3, h4⟩ := h.2 j hj
  simp only [rowB, numsB, inB, Bool.and_eq_true, decide_eq_true_eq, List.all_eq_true]
  exact ⟨h3, fun x hx => by have := h4 x hx; omega⟩

set_option maxHeartbeats 400000 in
set_option maxRecDepth 100000 in
theorem classable_c (m d : Int) (k : Nat) (w : World) (hm : 2 ≤ m) (hm' : m ≤ 10000) (hd : d = (k : Int) + 1) (hk1 : 1 ≤ k) (hk : k ≤ 9) (r : Int) (hr : r = if 300 < m ^ k then 3 else 0) :
    Calls Tryz.prog 29 #[.int .i64 m, .int .i64 d] w fun e w' => e = .returned (.int .i64 r) ∧ w = w' := by
  subst hd
  have hmod : modB m = true := by simp [modB, inB]; omega
  have hin : inB ((k : Int) + 1) 2 10 = true := by simp [inB]; omega
  have hcl : decide (300 < cntAt m 300 k 1) = decide (300 < m ^ k) := by
    have h := cnt_large (m := m) (most := 300) (by omega) k 1 (by omega) (by omega)
    obtain ⟨j, rfl⟩ : ∃ j, k = j + 1 := ⟨k - 1, by omega⟩
    simp only [Int.one_mul] at h
    exact h
  have e0 : IntKind.i64.wrap ((k : Int) + 1 - 1) = (k : Int) := by rw [IntWalk.i64_in _ (by omega)]; omega
  by_cases h3 : 300 < m ^ k
  · have hq : 300 < cntAt m 300 k 1 := by rw [decide_eq_true h3] at hcl; simpa using hcl
    obtain rfl : r = 3 := by rw [hr, if_pos h3]
    clear hcl h3 hr
    go_enter Tryz.func29, Tryz.ntmps29
    go_wp2_with (first | (go_at_call 43; go_loud (refine (IsModulus_c _ _).mono ?_; rw [hmod]; rintro e w' ⟨rfl, rfl⟩)) | (go_at_call 44; go_loud (refine (in_c _ _ _ _).mono ?_; rw [hin]; rintro e w' ⟨rfl, rfl⟩)) | (go_at_call 45; go_loud (refine (countAtMost_c m _ 300 k _ (by omega) (by omega) hm hm' (by omega) (by omega)).mono ?_; rintro e w' ⟨rfl, rfl⟩)))
    go_ret
    exact ⟨rfl, rfl⟩
  · have hq : ¬ 300 < cntAt m 300 k 1 := by rw [decide_eq_false h3] at hcl; simpa using hcl
    obtain rfl : r = 0 := by rw [hr, if_neg h3]
    clear hcl h3 hr
    go_enter Tryz.func29, Tryz.ntmps29
    go_wp2_with (first | (go_at_call 43; go_loud (refine (IsModulus_c _ _).mono ?_; rw [hmod]; rintro e w' ⟨rfl, rfl⟩)) | (go_at_call 44; go_loud (refine (in_c _ _ _ _).mono ?_; rw [hin]; rintro e w' ⟨rfl, rfl⟩)) | (go_at_call 45; go_loud (refine (countAtMost_c m _ 300 k _ (by omega) (by omega) hm hm' (by omega) (by omega)).mono ?_; rintro e w' ⟨rfl, rfl⟩)))
    go_ret
    exact ⟨rfl, rfl⟩

set_option maxHeartbeats 400000 in
set_option maxRecDepth 100000 in
theorem classed_c (m : Int) (v : Value) (t : List (List Int)) (w : World) (hv : RdT w v t) :
    Calls Tryz.prog 16 #[.agg #[.int .i64 m, v]] w fun e w' => e = .returned (.int .i64 (l11R m t)) ∧ Below w.heap.size w w' := by
  obtain ⟨o, c, rfl, hmt, -⟩ := id hv
  have hml := hmt.1
  clear hmt
  cases hl : lawB m t
  · have HR := Lib.hid (show l11R m t = 1 by unfold l11R; rw [hl]; rfl)
    go_enter Tryz.func16, Tryz.ntmps16
    go_wp2_with fail
    (have X0 := ((RB2.mk1 w  (.int .i64 m) (.slice o t.length c) 28).1).below (w' := (w.alloc (.cells #[.int .i64 m, .slice o t.length c] 28))) (by (repeat (first | exact bR _ _ | (refine bS ?_ _) | (refine bA ?_ _) | (refine bN ?_ _) | (refine bD ?_)))) (Nat.le_refl _); have B0 : Below w.heap.size w (w.alloc (.cells #[.int .i64 m, .slice o t.length c] 28)) := (by (repeat (first | exact bR _ _ | (refine bS ?_ _) | (refine bA ?_ _) | (refine bN ?_ _) | (refine bD ?_)))); have hv0 := hv.below (w' := (w.alloc (.cells #[.int .i64 m, .slice o t.length c] 28))) (by (repeat (first | exact bR _ _ | (refine bS ?_ _) | (refine bA ?_ _) | (refine bN ?_ _) | (refine bD ?_)))) (Nat.le_refl _); generalize w.alloc (.cells #[.int .i64 m, .slice o t.length c] 28) = w0 at X0 B0 hv0 ⊢)
    (obtain ⟨gqX0, gqX1⟩ := id X0; go_wp2_with fail; refine (IsLaw_c m _ t _ hv0).mono ?_; rw [hl]; rintro e w1 ⟨rfl, hb⟩; (have X1 := X0.below hb (Nat.le_refl _); have B1 := B0.trans (hb.mono B0.size)); clear gqX0 gqX1; clear hb)
    go_wp2
    go_ret
    exact ⟨by rw [HR.out]; rfl, B1⟩
  · have hp := (lawB_t hl).1
    have hm := pla_m hp
    have hn := pla_n hp
    by_cases h2 : t.length = 2
    · have HR := Lib.hid (show l11R m t = 5 by unfold l11R; rw [hl, if_pos rfl, if_pos h2])
      have hq : (t.length : Int) - 1 < 2 := by omega
      clear h2
      go_enter Tryz.func16, Tryz.ntmps16
      go_wp2_with fail
      (have X0 := ((RB2.mk1 w  (.int .i64 m) (.slice o t.length c) 28).1).below (w' := (w.alloc (.cells #[.int .i64 m, .slice o t.length c] 28))) (by (repeat (first | exact bR _ _ | (refine bS ?_ _) | (refine bA ?_ _) | (refine bN ?_ _) | (refine bD ?_)))) (Nat.le_refl _); have B0 : Below w.heap.size w (w.alloc (.cells #[.int .i64 m, .slice o t.length c] 28)) := (by (repeat (first | exact bR _ _ | (refine bS ?_ _) | (refine bA ?_ _) | (refine bN ?_ _) | (refine bD ?_)))); have hv0 := hv.below (w' := (w.alloc (.cells #[.int .i64 m, .slice o t.length c] 28))) (by (repeat (first | exact bR _ _ | (refine bS ?_ _) | (refine bA ?_ _) | (refine bN ?_ _) | (refine bD ?_)))) (Nat.le_refl _); generalize w.alloc (.cells #[.int .i64 m, .slice o t.length c] 28) = w0 at X0 B0 hv0 ⊢)
      (obtain ⟨gqX0, gqX1⟩ := id X0; go_wp2_with fail; refine (IsLaw_c m _ t _ hv0).mono ?_; rw [hl]; rintro e w1 ⟨rfl, hb⟩; (have X1 := X0.below hb (Nat.le_refl _); have B1 := B0.trans (hb.mono B0.size)); clear gqX0 gqX1; clear hb)
      (obtain ⟨gqX0, gqX1⟩ := id X1; go_wp2_with fail; refine (degreeP_c m o t.length c _ hml).mono ?_; rintro e w2 ⟨rfl, hb⟩; (have X2 := X1.below hb (Nat.le_refl _); have B2 := B1.trans (hb.mono B1.size)); clear gqX0 gqX1; clear hb)
      go_wp2
      go_ret
      exact ⟨by rw [HR.out]; rfl, B2⟩
    · have hq : ¬ (t.length : Int) - 1 < 2 := by omega
      have HR := Lib.hid (show l11R m t = if 300 < m ^ (t.length - 2) then 3 else 0 by unfold l11R; rw [hl, if_pos rfl, if_neg h2])
      clear h2
      go_enter Tryz.func16, Tryz.ntmps16
      go_wp2_with fail
      (have X0 := ((RB2.mk1 w  (.int .i64 m) (.slice o t.length c) 28).1).below (w' := (w.alloc (.cells #[.int .i64 m, .slice o t.length c] 28))) (by (repeat (first | exact bR _ _ | (refine bS ?_ _) | (refine bA ?_ _) | (refine bN ?_ _) | (refine bD ?_)))) (Nat.le_refl _); have B0 : Below w.heap.size w (w.alloc (.cells #[.int .i64 m, .slice o t.length c] 28)) := (by (repeat (first | exact bR _ _ | (refine bS ?_ _) | (refine bA ?_ _) | (refine bN ?_ _) | (refine bD ?_)))); have hv0 := hv.below (w' := (w.alloc (.cells #[.int .i64 m, .slice o t.length c] 28))) (by (repeat (first | exact bR _ _ | (refine bS ?_ _) | (refine bA ?_ _) | (refine bN ?_ _) | (refine bD ?_)))) (Nat.le_refl _); generalize w.alloc (.cells #[.int .i64 m, .slice o t.length c] 28) = w0 at X0 B0 hv0 ⊢)
      (obtain ⟨gqX0, gqX1⟩ := id X0; go_wp2_with fail; refine (IsLaw_c m _ t _ hv0).mono ?_; rw [hl]; rintro e w1 ⟨rfl, hb⟩; (have X1 := X0.below hb (Nat.le_refl _); have B1 := B0.trans (hb.mono B0.size)); clear gqX0 gqX1; clear hb)
      (obtain ⟨gqX0, gqX1⟩ := id X1; go_wp2_with fail; refine (degreeP_c m o t.length c _ hml).mono ?_; rintro e w2 ⟨rfl, hb⟩; (have X2 := X1.below hb (Nat.le_refl _); have B2 := B1.trans (hb.mono B1.size)); clear gqX0 gqX1; clear hb)
      obtain ⟨x0, x1⟩ := id X2
      have hX := X2
      go_wp2_with fail
      have hd0 : Below w2.heap.size w2 w2.drew := (Below.refl _ _).drew
      have hsd0 := hd0.size
      obtain ⟨f0_a, f0_b⟩ := ((hX).below (Below.refl w2.heap.size w2) (Nat.le_refl _))
      refine wp_region_K (S := fun w' => w'.cell? ⟨w.heap.size, 0, none⟩ = some (.int .i64 m) ∧ w'.cell? ⟨w.heap.size, 1, none⟩ = some (.slice o t.length c)) [] (by kernel_rfl) ?_
      have hHeld : (fun w' : World => w'.cell? ⟨w.heap.size, 0, none⟩ = some (.int .i64 m) ∧ w'.cell? ⟨w.heap.size, 1, none⟩ = some (.slice o t.length c)) w2.drew := by go_keep
      refine' wpAnyK_takeL (i := 0) (v := _) rfl (by kernel_rfl) (by kernel_rfl) (by kernel_rfl) (by kernel_rfl) (fun _ _ _ h => h) (Or.inl ⟨by rfl, ?yT1⟩) hHeld ?rT1
      case yT1 => (intro w' hSw; (try dsimp only at hSw); go_simp; try with_reducible rfl)
      try simp only [List.getElem_toArray, List.getElem_cons_zero, List.getElem_cons_succ, Act.put, List.setIfInBounds_toArray, List.set_cons_zero, List.set_cons_succ]
      refine' wpAnyK_takeL (i := 1) (v := _) rfl (by kernel_rfl) (by kernel_rfl) (by kernel_rfl) (by kernel_rfl) (fun _ _ _ h => h) (Or.inl ⟨by rfl, ?yT2⟩) hHeld ?rT2
      case yT2 => (intro w' hSw; (try dsimp only at hSw); go_simp; try with_reducible rfl)
      try simp only [List.getElem_toArray, List.getElem_cons_zero, List.getElem_cons_succ, Act.put, List.setIfInBounds_toArray, List.set_cons_zero, List.set_cons_succ]
      refine' wpAnyK_takeL (i := 2) (v := _) rfl (by kernel_rfl) (by kernel_rfl) (by kernel_rfl) (by kernel_rfl) (fun _ _ _ h => h) (Or.inl ⟨by rfl, ?yT3⟩) hHeld ?rT3
      case yT3 => (intro w' hSw; (try dsimp only at hSw); go_simp; try with_reducible rfl)
      try simp only [List.getElem_toArray, List.getElem_cons_zero, List.getElem_cons_succ, Act.put, List.setIfInBounds_toArray, List.set_cons_zero, List.set_cons_succ]
      refine wpAnyK_oneL (i := 3) rfl (by kernel_rfl) (fun K hK => ?_)
      go_simp
      go_at_call 28
      refine (degreeP_c m o t.length c _ hml).mono ?_
      rintro e wd1 ⟨rfl, hbd1⟩
      have hd1 : Below w2.heap.size w2 wd1 := (by (repeat (first | exact bR _ _ | (refine bS ?_ _) | (refine bA ?_ _) | (refine bN ?_ _) | (refine bD ?_) | (refine bT ?_ hbd1))))
      have hsd1 := hd1.size
      have hsz1_ := hbd1.size
      (try simp at hsz1_)
      obtain ⟨f1_a, f1_b⟩ := ((hX).below hd1 (Nat.le_refl _))
      go_wp2_with fail
      clear hHeld
      have hHeld : (fun w' : World => w'.cell? ⟨w.heap.size, 0, none⟩ = some (.int .i64 m) ∧ w'.cell? ⟨w.heap.size, 1, none⟩ = some (.slice o t.length c)) wd1 := by go_keep
      refine hK.out _ _ (fun _ => hHeld) ?_
      clear hK K
      try simp only [List.getElem_toArray, List.getElem_cons_zero, List.getElem_cons_succ, Act.put, List.setIfInBounds_toArray, List.set_cons_zero, List.set_cons_succ]
      refine wpAnyK_oneL (i := 4) rfl (by kernel_rfl) (fun K hK => ?_)
      go_simp
      go_at_call 29
      refine (classable_c m _ (t.length - 2) _ (by omega) (by omega) (by omega) (by omega) (by omega) (l11R m t) HR.out).mono ?_
      rintro e w' ⟨rfl, rfl⟩
      go_wp2_with fail
      refine hK.out _ _ (fun _ => hHeld) ?_
      clear hK K
      try simp only [List.getElem_toArray, List.getElem_cons_zero, List.getElem_cons_succ, Act.put, List.setIfInBounds_toArray, List.set_cons_zero, List.set_cons_succ]
      refine wpAnyK_oneL (i := 5) rfl (by kernel_rfl) (fun K hK => ?_)
      go_simp
      (try go_wp2_with fail)
      refine hK.out _ _ (fun _ => hHeld) ?_
      clear hK K
      try simp only [List.getElem_toArray, List.getElem_cons_zero, List.getElem_cons_succ, Act.put, List.setIfInBounds_toArray, List.set_cons_zero, List.set_cons_succ]
      refine wpAnyK_done (by kernel_rfl) ?_ _
      go_wp2
      go_ret
      exact ⟨rfl, B2.trans (hd1.mono B2.size)⟩

set_option maxHeartbeats 400000 in
set_option maxRecDepth 100000 in
theorem cs1_c (s own : ByteArray) (x : Int) (a b : Nat) (w : World) (h1 : w.cell? ⟨a, 0, none⟩ = some (.string own)) (h2 : w.cell? ⟨b, 0, none⟩ = some (.int .i64 x)) (hf : w.frozen? ⟨b, 0, none⟩ = false) (hx0 : 0 ≤ x) (hx1 : x ≤ 1000000) :
    Calls Tryz.prog 19 #[.string s, .pointer (some ⟨a, 0, none⟩), .pointer (some ⟨b, 0, none⟩)] w fun e w' => e = .returned (.tuple #[]) ∧ Hid (w' = if s = own then w.setCell ⟨b, 0, none⟩ (.int .i64 (x + 1)) else w) := by
  have e1 : IntKind.i64.wrap (x + 1) = x + 1 := IntWalk.i64_in _ (by omega)
  by_cases hs : s = own
  · subst hs
    go_enter Tryz.func19, Tryz.ntmps19
    go_wp2
    exact bodyPost_end (v := .tuple #[]) (by simp [results, Tryz.results19, go_sem]) rfl ⟨rfl, Lib.hid (by first | rfl | (rw [if_pos rfl]) | (rw [if_neg hs]))⟩
  · have hb : (s.toList == own.toList) = false := by
      rw [beq_eq_false_iff_ne, ByteArray.toList_eq, ByteArray.toList_eq]
      intro h
      exact hs (by cases s; cases own; simp at h; rw [h])
    go_enter Tryz.func19, Tryz.ntmps19
    go_wp2
    exact bodyPost_end (v := .tuple #[]) (by simp [results, Tryz.results19, go_sem]) rfl ⟨rfl, Lib.hid (by first | rfl | (rw [if_pos rfl]) | (rw [if_neg hs]))⟩
end Go.Proofs.YtfpphfjlpgefaaaGreatDoor
set_option linter.unusedSimpArgs false
set_option linter.unusedVariables false
namespace Go.Proofs.YtfpphfjlpgefaaaGreatDoor
open Go.RowKit

theorem TenT.of_heap {w u : World} (h : TenT w) (hs : w.heap.size ≤ u.heap.size) (hk : ∀ k, k < w.heap.size → u.heap[k]? = w.heap[k]?) : TenT u := by
  have h2 : TenT { u with os := w.os, tape := w.tape, output := w.output } := h.below ⟨rfl, rfl, rfl, hs, hk⟩
  exact h2

structure InvO (m : Int) (p q : Nat) (w : World) (tv : Value) (own : ByteArray) (s : Nat) (o : Option Nat) (u : World) : Prop where
  bel : ∀ k, k < w.heap.size → u.heap[k]? = w.heap[k]?
  F : Box2 u p (.int .i64 m) tv
  Y : Cel1 u (p + 1) 0 (.func (.func 19) #[] #[.pointer (some ⟨q, 0, none⟩), .pointer (some ⟨q + 1, 0, none⟩)])
  O : Cel1 u q 0 (.string own)
  N : Cel1 u (q + 1) 0 (.int .i64 (s : Int))
  z : ∀ k, u.frozen? ⟨q + 1, k, none⟩ = false
  no : o = none
theorem InvO.stay {m : Int} {p q g : Nat} {w : World} {tv : Value} {own : ByteArray} {s : Nat} {o : Option Nat} {u u' : World} (h : InvO m p q w tv own s o u) (hq : w.heap.size ≤ q) (hp : q + 2 ≤ p) (hg : p + 2 ≤ g) (hk : ∀ k, k < u.heap.size → k ≠ g → u'.heap[k]? = u.heap[k]?) : InvO m p q w tv own s o u' := by
  obtain ⟨h1, h2, h3, h4, h5, h6, h7⟩ := h
  have l2 := h2.lt
  have l5 := h5.lt
  exact ⟨fun k k1 => (hk k (by omega) (by omega)).trans (h1 k k1), h2.blk (hk _ l2 (by omega)), h3.blk (hk _ h3.lt (by omega)), h4.blk (hk _ h4.lt (by omega)), h5.blk (hk _ l5 (by omega)), fun k => (World.frozen?_of_block (hk (q + 1) l5 (by omega))).trans (h6 k), h7⟩
theorem InvO.rd {m : Int} {p q : Nat} {w : World} {tv : Value} {own : ByteArray} {s : Nat} {o : Option Nat} {u : World} (h : InvO m p q w tv own s o u) {v : Value} {t : List (List Int)} (hv : RdT w v t) : RdT u v t := (RdT.rds hv).2 u (fun k _ hk => h.bel k hk)
theorem InvO.ten {m : Int} {p q : Nat} {w : World} {tv : Value} {own : ByteArray} {s : Nat} {o : Option Nat} {u : World} (h : InvO m p q w tv own s o u) (hq : w.heap.size ≤ q) (hp : q + 2 ≤ p) (ht : TenT w) : TenT u := ht.of_heap (by have := h.F.lt; omega) h.bel

def stA (m : Int) (n : Nat) (t : List (List Int)) (xs : List Int) (l : Nat) : Nat × Bool := (if texB m (cooT m n t xs) = texB m t then l + 1 else l, true)
theorem foldA (m : Int) (n : Nat) (t : List (List Int)) : ∀ (L : List (List Int)) (l : Nat), L.foldl (fun l xs => (stA m n t xs l).1) l = l + (L.filter (fun xs => decide (texB m (cooT m n t xs) = texB m t))).length
  | [], l => by simp
  | x :: L, l => by
    rw [List.foldl_cons, foldA m n t L]
    unfold stA
    by_cases h : texB m (cooT m n t x) = texB m t
    · rw [List.filter_cons_of_pos (by simp [h])]; simp [h]; omega
    · rw [List.filter_cons_of_neg (by simp [h])]; simp [h]
theorem runA {m : Int} {n : Nat} {t : List (List Int)} (hm : 2 ≤ m) (h2 : 2 ≤ n) (ht : PlaT m n t) (ht0 : atT t 0 0 = 0) : runC m.toNat (stA m n t) (n - 2) [0, 1] 0 = (autN m n t (m.toNat ^ (n - 2)), true) := by
  rw [runC_true _ _ (fun _ _ => rfl), foldA, ← autN_all hm, Nat.zero_add]
  congr 2
  refine List.filter_congr fun xs hx => ?_
  rw [hom_two hm h2 ht ht0 hx]
  have : texB m (cooT m n t xs) = texB m t ↔ cooT m n t xs = t := ⟨fun h => texB_inj (show PlaT m n (cooT m n t xs) from hornT_ok (by omega) _ _ _) ht h, fun h => by rw [h]⟩
  exact decide_eq_decide.2 this

set_option maxHeartbeats 400000 in
set_option maxRecDepth 100000 in
theorem orb1_c (m : Int) (n p q g : Nat) (w : World) (tv : Value) (t : List (List Int)) (hq : w.heap.size ≤ q) (hp : q + 2 ≤ p) (hg : p + 2 ≤ g) (hm : 2 ≤ m) (hm' : m ≤ 10000) (h2n : 2 ≤ n) (hn : n ≤ 11) (ht : PlaT m n t) (hv : RdT w tv t) (hten : TenT w)
    (xs : List Int) (l : Nat) (o : Option Nat) (u0 u : World) (v : Value) (hi : InvO m p q w tv (texB m t) l o u) (hb0 : Below u0.heap.size u0 u) (hB : g < u0.heap.size) (hx : OwI u u0.heap.size v xs) (hl : xs.length = n) (hr : ∀ x ∈ xs, 0 ≤ x ∧ x < m) (hl2 : l ≤ 1000) :
    Calls Tryz.prog 32 #[.agg #[.int .i64 m, v], .pointer (some ⟨p + 1, 0, none⟩), .pointer (some ⟨p, 0, none⟩)] u fun e w' =>
      e = .returned (.bool (stA m n t xs l).2) ∧ ∃ o', InvO m p q w tv (texB m t) (stA m n t xs l).1 o' w' ∧ (o' = o ∨ ∃ j, o' = some j ∧ u0.heap.size ≤ j) ∧ Ch [q + 1] o u w' := by
  obtain ⟨ov, cv, rfl⟩ := hx.shapeN hl
  have HT := Lib.hid ht
  have HX := Lib.hid hr
  obtain ⟨ot, ct, rfl, -, -⟩ := id hv
  have HV := Lib.hid hv
  clear ht hr hv
  have HSt := Lib.hid (show stA m n t xs l = (if texB m (cooT m n t xs) = texB m t then l + 1 else l, true) from rfl)
  generalize stA m n t xs l = rr at HSt
  obtain ⟨r1, r2⟩ := rr
  have HP := Lib.hid (show PlaT m n (cooT m n t xs) from hornT_ok (by omega) _ _ _)
  have HPB := Lib.hid (plaB_of hm hm' h2n hn HP.out)
  have hb0s := hb0.size
  have hA : Below u.heap.size u (u.alloc (.cells #[.int .i64 m, .slice ov n cv] 53)) := (by (repeat (first | exact bR _ _ | (refine bS ?_ _) | (refine bA ?_ _) | (refine bN ?_ _) | (refine bD ?_))))
  have X0 := Box2.mk' u (.int .i64 m) (.slice ov n cv) 53
  have hi0 := hi.stay hq hp hg (fun k hk _ => hA.block k hk)
  have hx0 := hx.below hA
  have hAs := hA.size
  have hlu := hi.F.lt
  have hXp : p < u.heap.size := hlu
  have hXp1 : p + 1 < u.heap.size := hi.Y.lt
  generalize hown : texB m t = own at hi hi0 HSt ⊢
  go_enter Tryz.func32, Tryz.ntmps32
  go_wp2_with fail
  generalize u.alloc (.cells #[.int .i64 m, .slice ov n cv] 53) = u1 at hA X0 hi0 hx0 hAs ⊢
  have F1 := hi0.F
  have Y1 := hi0.Y
  have hRt := hi0.rd HV.out
  have hT1 := hi0.ten hq hp hten
  have hxr := hx0.rd
  have hd0 : Below u1.heap.size u1 u1.drew := (Below.refl _ _).drew
  have hsd0 := hd0.size
  obtain ⟨f0_a, f0_b⟩ := ((F1).below (Below.refl u1.heap.size u1) (Nat.le_refl _))
  have f0_c := (((Y1).below (Below.refl u1.heap.size u1) (Nat.le_refl _))).get
  obtain ⟨f0_d, f0_e⟩ := ((X0).below (Below.refl u1.heap.size u1) (Nat.le_refl _))
  refine wp_region_K (S := fun w' => w'.cell? ⟨p, 0, none⟩ = some (.int .i64 m) ∧ w'.cell? ⟨p, 1, none⟩ = some (.slice ot t.length ct) ∧ w'.cell? ⟨p + 1, 0, none⟩ = some (.func (.func 19) #[] #[.pointer (some ⟨q, 0, none⟩), .pointer (some ⟨q + 1, 0, none⟩)]) ∧ w'.cell? ⟨u.heap.size, 0, none⟩ = some (.int .i64 m) ∧ w'.cell? ⟨u.heap.size, 1, none⟩ = some (.slice ov n cv)) [5] (by kernel_rfl) ?_
  have hHeld : (fun w' : World => w'.cell? ⟨p, 0, none⟩ = some (.int .i64 m) ∧ w'.cell? ⟨p, 1, none⟩ = some (.slice ot t.length ct) ∧ w'.cell? ⟨p + 1, 0, none⟩ = some (.func (.func 19) #[] #[.pointer (some ⟨q, 0, none⟩), .pointer (some ⟨q + 1, 0, none⟩)]) ∧ w'.cell? ⟨u.heap.size, 0, none⟩ = some (.int .i64 m) ∧ w'.cell? ⟨u.heap.size, 1, none⟩ = some (.slice ov n cv)) u1.drew := by go_keep
  refine' wpAnyK_takeL (i := 0) (v := _) rfl (by kernel_rfl) (by kernel_rfl) (by kernel_rfl) (by kernel_rfl) (fun _ _ _ h => h) (Or.inl ⟨by rfl, ?yT1⟩) hHeld ?rT1
  case yT1 => (intro w' hSw; (try dsimp only at hSw); go_simp; try with_reducible rfl)
  try simp only [List.getElem_toArray, List.getElem_cons_zero, List.getElem_cons_succ, Act.put, List.setIfInBounds_toArray, List.set_cons_zero, List.set_cons_succ]
  refine' wpAnyK_takeL (i := 1) (v := _) rfl (by kernel_rfl) (by kernel_rfl) (by kernel_rfl) (by kernel_rfl) (fun _ _ _ h => h) (Or.inl ⟨by rfl, ?yT2⟩) hHeld ?rT2
  case yT2 => (intro w' hSw; (try dsimp only at hSw); go_simp; try with_reducible rfl)
  try simp only [List.getElem_toArray, List.getElem_cons_zero, List.getElem_cons_succ, Act.put, List.setIfInBounds_toArray, List.set_cons_zero, List.set_cons_succ]
  refine' wpAnyK_takeL (i := 2) (v := _) rfl (by kernel_rfl) (by kernel_rfl) (by kernel_rfl) (by kernel_rfl) (fun _ _ _ h => h) (Or.inl ⟨by rfl, ?yT3⟩) hHeld ?rT3
  case yT3 => (intro w' hSw; (try dsimp only at hSw); go_simp; try with_reducible rfl)
  try simp only [List.getElem_toArray, List.getElem_cons_zero, List.getElem_cons_succ, Act.put, List.setIfInBounds_toArray, List.set_cons_zero, List.set_cons_succ]
  refine wpAnyK_oneL (i := 3) rfl (by kernel_rfl) (fun K hK => ?_)
  go_simp
  go_at_call 33
  refine (inCoordinate_c m n _ _ t xs _ ((hRt).below (by (repeat (first | exact bR _ _ | (refine bS ?_ _) | (refine bA ?_ _) | (refine bN ?_ _) | (refine bD ?_)))) (Nat.le_refl _)) ((hxr).below (by (repeat (first | exact bR _ _ | (refine bS ?_ _) | (refine bA ?_ _) | (refine bN ?_ _) | (refine bD ?_)))) (Nat.le_refl _)) hl h2n (by omega) hm hm' HT.out HX.out).mono ?_
  rintro e wd1 ⟨va, rfl, hod1, hbd1⟩
  obtain ⟨oa, ca, rfl⟩ := hod1.shapeN (n := n) (cooT_len _ _ _ _)
  have hd1 : Below u1.heap.size u1 wd1 := (by (repeat (first | exact bR _ _ | (refine bS ?_ _) | (refine bA ?_ _) | (refine bN ?_ _) | (refine bD ?_) | (refine bT ?_ hbd1))))
  have hsd1 := hd1.size
  have hsz1_ := hbd1.size
  (try simp at hsz1_)
  obtain ⟨f1_a, f1_b⟩ := ((F1).below hd1 (Nat.le_refl _))
  have f1_c := (((Y1).below hd1 (Nat.le_refl _))).get
  obtain ⟨f1_d, f1_e⟩ := ((X0).below hd1 (Nat.le_refl _))
  go_wp2_with fail
  clear hHeld
  have hHeld : (fun w' : World => w'.cell? ⟨p, 0, none⟩ = some (.int .i64 m) ∧ w'.cell? ⟨p, 1, none⟩ = some (.slice ot t.length ct) ∧ w'.cell? ⟨p + 1, 0, none⟩ = some (.func (.func 19) #[] #[.pointer (some ⟨q, 0, none⟩), .pointer (some ⟨q + 1, 0, none⟩)]) ∧ w'.cell? ⟨u.heap.size, 0, none⟩ = some (.int .i64 m) ∧ w'.cell? ⟨u.heap.size, 1, none⟩ = some (.slice ov n cv)) wd1 := by go_keep
  refine hK.out _ _ (fun _ => hHeld) ?_
  clear hK K
  try simp only [List.getElem_toArray, List.getElem_cons_zero, List.getElem_cons_succ, Act.put, List.setIfInBounds_toArray, List.set_cons_zero, List.set_cons_succ]
  refine wpAnyK_oneL (i := 4) rfl (by kernel_rfl) (fun K hK => ?_)
  go_simp
  go_at_call 17
  refine (textOf_c m _ n (cooT m n t xs) _ ((hod1.below (by (repeat (first | exact bR _ _ | (refine bS ?_ _) | (refine bA ?_ _) | (refine bN ?_ _) | (refine bD ?_)))))).rd HPB.out HP.out (hT1.below hd1)).mono ?_
  rintro e wd2 ⟨rfl, hbd2⟩
  have hd2 : Below u1.heap.size u1 wd2 := (by (repeat (first | exact bR _ _ | (refine bS ?_ _) | (refine bA ?_ _) | (refine bN ?_ _) | (refine bD ?_) | (refine bT ?_ hbd1) | (refine bT ?_ hbd2))))
  have hsd2 := hd2.size
  have hsz2_ := hbd2.size
  (try simp at hsz2_)
  obtain ⟨f2_a, f2_b⟩ := ((F1).below hd2 (Nat.le_refl _))
  have f2_c := (((Y1).below hd2 (Nat.le_refl _))).get
  obtain ⟨f2_d, f2_e⟩ := ((X0).below hd2 (Nat.le_refl _))
  go_wp2_with fail
  clear hHeld
  have hHeld : (fun w' : World => w'.cell? ⟨p, 0, none⟩ = some (.int .i64 m) ∧ w'.cell? ⟨p, 1, none⟩ = some (.slice ot t.length ct) ∧ w'.cell? ⟨p + 1, 0, none⟩ = some (.func (.func 19) #[] #[.pointer (some ⟨q, 0, none⟩), .pointer (some ⟨q + 1, 0, none⟩)]) ∧ w'.cell? ⟨u.heap.size, 0, none⟩ = some (.int .i64 m) ∧ w'.cell? ⟨u.heap.size, 1, none⟩ = some (.slice ov n cv)) wd2 := by go_keep
  refine hK.out _ _ (fun _ => hHeld) ?_
  clear hK K
  try simp only [List.getElem_toArray, List.getElem_cons_zero, List.getElem_cons_succ, Act.put, List.setIfInBounds_toArray, List.set_cons_zero, List.set_cons_succ]
  refine wpAnyK_oneL (i := 5) rfl (by kernel_rfl) (fun K hK => ?_)
  go_simp
  have hi2 := hi0.stay hq hp hg (fun k hk _ => hd2.block k hk)
  refine (cs1_c (texB m (cooT m n t xs)) own (l : Int) q (q + 1) _ hi2.O.get hi2.N.get (hi2.z 0) (by omega) (by omega)).mono ?_
  rintro e w5 ⟨rfl, hw5⟩
  go_wp2_with fail
  refine hK.out _ _ (fun h => absurd h (by decide)) ?_
  clear hK K
  try simp only [List.getElem_toArray, List.getElem_cons_zero, List.getElem_cons_succ, Act.put, List.setIfInBounds_toArray, List.set_cons_zero, List.set_cons_succ]
  refine wpAnyK_done (by kernel_rfl) ?_ _
  go_wp2_with fail
  go_ret
  have hU2 : Below u.heap.size u wd2 := hA.trans (hd2.mono hAs)
  have hw5 := hw5.out
  by_cases ht : texB m (cooT m n t xs) = own
  · rw [if_pos ht] at hw5 HSt
    obtain ⟨rfl, rfl⟩ : r1 = l + 1 ∧ r2 = true := by have := HSt.out; simpa using this
    subst hw5
    have hP := grown_put wd2 (q + 1) 0 (.int .i64 ((l : Int) + 1))
    have hk : ∀ k, k < wd2.heap.size → k ≠ q + 1 → (wd2.setCell ⟨q + 1, 0, none⟩ (.int .i64 ((l : Int) + 1))).heap[k]? = wd2.heap[k]? := fun k k1 k2 => hP.block k k1 (fun e => by cases e; exact k2 rfl)
    have l2 := hi2.F.lt
    have lY := hi2.Y.lt
    have lO := hi2.O.lt
    have cN : Cel1 (wd2.setCell ⟨q + 1, 0, none⟩ (.int .i64 ((l : Int) + 1))) (q + 1) 0 (.int .i64 ((l : Int) + 1)) := ⟨World.cell?_setCell_same _ _ _ hi2.N.get⟩
    refine ⟨rfl, o, ⟨fun k k1 => (hk k (by omega) (by omega)).trans (hi2.bel k k1), hi2.F.blk (hk _ l2 (by omega)), hi2.Y.blk (hk _ lY (by omega)), hi2.O.blk (hk _ lO (by omega)), cN, fun k => by rw [World.frozen?_setCell]; exact hi2.z k, hi2.no⟩, .inl rfl, ?_⟩
    exact (Ch.of_below hU2).trans (.inl rfl) (Ch.of_grown hP (by simp))
  · rw [if_neg ht] at hw5 HSt
    obtain ⟨rfl, rfl⟩ : r1 = l ∧ r2 = true := by have := HSt.out; simpa using this
    subst hw5
    (try rw [if_neg ht])
    exact ⟨rfl, o, hi2, .inl rfl, Ch.of_below hU2⟩
theorem orb1_callable : Callable 32 := fun args w => Tryz.call32 args w
end Go.Proofs.YtfpphfjlpgefaaaGreatDoor
set_option linter.unusedSimpArgs false
set_option linter.unusedVariables false
namespace Go.Proofs.YtfpphfjlpgefaaaGreatDoor
open Go.RowKit

theorem orbWalk (m : Int) (n p q g cz : Nat) (w u : World) (tv : Value) (t : List (List Int)) (hq : w.heap.size ≤ q) (hp : q + 2 ≤ p) (hg : p + 2 ≤ g) (hgu : g < u.heap.size) (hm : 2 ≤ m) (hm' : m ≤ 10000) (h2n : 2 ≤ n) (hn : n ≤ 11) (ht : PlaT m n t) (ht0 : atT t 0 0 = 0) (hv : RdT w tv t) (hten : TenT w) (hM : m.toNat ^ (n - 2) ≤ 300)
    (hi : InvO m p q w tv (texB m t) 0 none u) (hr : OwI u g (.slice (some ⟨g, 0, none⟩) n cz) (varL n)) :
    Calls Tryz.prog 49 #[.agg #[.int .i64 m, .slice (some ⟨g, 0, none⟩) n cz], .int .i64 2, .func (.func 32) #[] #[.pointer (some ⟨p + 1, 0, none⟩), .pointer (some ⟨p, 0, none⟩)]] u fun e w' =>
      (∃ bb, e = .returned (.bool bb)) ∧ InvO m p q w tv (texB m t) (autN m n t (m.toNat ^ (n - 2))) none w' ∧ Ch [g, q + 1] none u w' := by
  have hR := runA hm h2n ht ht0
  have h1 := varL_2 h2n
  have hC := curves_c (S := Nat) m n 32 #[.pointer (some ⟨p + 1, 0, none⟩), .pointer (some ⟨p, 0, none⟩)] (stA m n t) (InvO m p q w tv (texB m t)) [q + 1] (g + 1) g cz [0, 1] (fun s => s) 301
    (fun xs l => by unfold stA; simp only; split <;> omega) hm hm' (by omega) orb1_callable (by omega) (fun x hx => by simp at hx; omega) (by simp; omega)
    (fun l o x x' hi hs hk => hi.stay hq hp hg hk) (fun l o x hi j hj => by rw [hi.no] at hj; cases hj)
    (fun xs l o x0 x v _ hi hb0 hB ho hx hl hr _ hM => orb1_c m n p q g w tv t hq hp hg hm hm' h2n hn ht hv hten xs l o x0 x v hi hb0 (by omega) hx hl hr (by omega))
    (n - 2) 2 (varL n) 0 none u (by omega) (varL_len n) (varL_range hm n) hr hi (by omega) (by simp) h1 (by omega)
  rw [h1, hR] at hC
  refine hC.mono ?_
  rintro e w' ⟨rfl, o', hi', ho', hc', -⟩
  have e0 : o' = none := hi'.no
  subst e0
  exact ⟨⟨_, rfl⟩, hi', hc'⟩

set_option maxHeartbeats 400000 in
set_option maxRecDepth 100000 in
theorem orbit_c (m : Int) (n q : Nat) (w wo : World) (o : Option Addr) (c : Nat) (t : List (List Int)) (own : ByteArray) (hown : own = texB m t) (hml : t.length ≤ maxLen) (hn0 : t.length = n) (hq : w.heap.size ≤ q) (hqo : q + 2 ≤ wo.heap.size) (hm : 2 ≤ m) (hm' : m ≤ 10000) (h2n : 2 ≤ n) (hn : n ≤ 11) (ht : PlaT m n t) (ht0 : atT t 0 0 = 0) (hv : RdT w (.slice o t.length c) t) (hten : TenT w) (hM : m.toNat ^ (n - 2) ≤ 300)
    (hbel : ∀ k, k < w.heap.size → wo.heap[k]? = w.heap[k]?) (hO : Cel1 wo q 0 (.string own)) (hN : Cel1 wo (q + 1) 0 (.int .i64 0)) (hz : ∀ k, wo.frozen? ⟨q + 1, k, none⟩ = false) :
    Calls Tryz.prog 18 #[.agg #[.int .i64 m, .slice o t.length c], .func (.func 19) #[] #[.pointer (some ⟨q, 0, none⟩), .pointer (some ⟨q + 1, 0, none⟩)]] wo fun e w' => e = .returned (.tuple #[]) ∧ Cel1 w' (q + 1) 0 (.int .i64 (autN m n t (m.toNat ^ (n - 2)) : Int)) ∧ Below (q + 1) wo w' := by
  have HT := Lib.hid ht
  have HN0 := Lib.hid hn0
  have HOW := Lib.hid hown
  have HV := Lib.hid hv
  clear ht hn0 hown hv
  obtain ⟨p, hp⟩ : ∃ p, wo.heap.size = p := ⟨_, rfl⟩
  have hA : Below wo.heap.size wo ((wo.alloc (.cells #[.int .i64 m, .slice o t.length c] 28)).alloc (.cells #[.func (.func 19) #[] #[.pointer (some ⟨q, 0, none⟩), .pointer (some ⟨q + 1, 0, none⟩)]] 41)) := (by (repeat (first | exact bR _ _ | (refine bS ?_ _) | (refine bA ?_ _) | (refine bN ?_ _) | (refine bD ?_))))
  have F3 : Box2 ((wo.alloc (.cells #[.int .i64 m, .slice o t.length c] 28)).alloc (.cells #[.func (.func 19) #[] #[.pointer (some ⟨q, 0, none⟩), .pointer (some ⟨q + 1, 0, none⟩)]] 41)) p (.int .i64 m) (.slice o t.length c) := by
    rw [← hp]; exact (Box2.mk' wo (.int .i64 m) (.slice o t.length c) 28).below (by (repeat (first | exact bR _ _ | (refine bS ?_ _) | (refine bA ?_ _) | (refine bN ?_ _) | (refine bD ?_)))) (Nat.le_refl _)
  have Y3 : Cel1 ((wo.alloc (.cells #[.int .i64 m, .slice o t.length c] 28)).alloc (.cells #[.func (.func 19) #[] #[.pointer (some ⟨q, 0, none⟩), .pointer (some ⟨q + 1, 0, none⟩)]] 41)) (p + 1) 0 (.func (.func 19) #[] #[.pointer (some ⟨q, 0, none⟩), .pointer (some ⟨q + 1, 0, none⟩)]) := ⟨by
    have h := (show (wo.alloc (.cells #[.int .i64 m, .slice o t.length c] 28)).heap.size = p + 1 by simp [hp])
    rw [← h]; simp⟩
  have S3 : ((wo.alloc (.cells #[.int .i64 m, .slice o t.length c] 28)).alloc (.cells #[.func (.func 19) #[] #[.pointer (some ⟨q, 0, none⟩), .pointer (some ⟨q + 1, 0, none⟩)]] 41)).heap.size = p + 2 := by simp [hp]
  go_enter Tryz.func18, Tryz.ntmps18
  go_wp2_with fail
  generalize ((wo.alloc (.cells #[.int .i64 m, .slice o t.length c] 28)).alloc (.cells #[.func (.func 19) #[] #[.pointer (some ⟨q, 0, none⟩), .pointer (some ⟨q + 1, 0, none⟩)]] 41)) = w3 at hA F3 Y3 S3 ⊢
  have hd0 : Below w3.heap.size w3 w3.drew := (Below.refl _ _).drew
  have hsd0 := hd0.size
  obtain ⟨f0_a, f0_b⟩ := ((F3).below (Below.refl w3.heap.size w3) (Nat.le_refl _))
  refine wp_region_K (S := fun w' => w'.cell? ⟨p, 0, none⟩ = some (.int .i64 m) ∧ w'.cell? ⟨p, 1, none⟩ = some (.slice o t.length c)) [5] (by kernel_rfl) ?_
  have hHeld : (fun w' : World => w'.cell? ⟨p, 0, none⟩ = some (.int .i64 m) ∧ w'.cell? ⟨p, 1, none⟩ = some (.slice o t.length c)) w3.drew := by go_keep
  refine' wpAnyK_takeL (i := 0) (v := _) rfl (by kernel_rfl) (by kernel_rfl) (by kernel_rfl) (by kernel_rfl) (fun _ _ _ h => h) (Or.inl ⟨by rfl, ?yT1⟩) hHeld ?rT1
  case yT1 => (intro w' hSw; (try dsimp only at hSw); go_simp; try with_reducible rfl)
  try simp only [List.getElem_toArray, List.getElem_cons_zero, List.getElem_cons_succ, Act.put, List.setIfInBounds_toArray, List.set_cons_zero, List.set_cons_succ]
  refine' wpAnyK_takeL (i := 1) (v := _) rfl (by kernel_rfl) (by kernel_rfl) (by kernel_rfl) (by kernel_rfl) (fun _ _ _ h => h) (Or.inl ⟨by rfl, ?yT2⟩) hHeld ?rT2
  case yT2 => (intro w' hSw; (try dsimp only at hSw); go_simp; try with_reducible rfl)
  try simp only [List.getElem_toArray, List.getElem_cons_zero, List.getElem_cons_succ, Act.put, List.setIfInBounds_toArray, List.set_cons_zero, List.set_cons_succ]
  refine' wpAnyK_takeL (i := 2) (v := _) rfl (by kernel_rfl) (by kernel_rfl) (by kernel_rfl) (by kernel_rfl) (fun _ _ _ h => h) (Or.inl ⟨by rfl, ?yT3⟩) hHeld ?rT3
  case yT3 => (intro w' hSw; (try dsimp only at hSw); go_simp; try with_reducible rfl)
  try simp only [List.getElem_toArray, List.getElem_cons_zero, List.getElem_cons_succ, Act.put, List.setIfInBounds_toArray, List.set_cons_zero, List.set_cons_succ]
  refine' wpAnyK_takeL (i := 4) (v := _) rfl (by kernel_rfl) (by kernel_rfl) (by kernel_rfl) (by kernel_rfl) (fun _ _ _ h => h) (Or.inl ⟨by rfl, ?yT4⟩) hHeld ?rT4
  case yT4 => (intro w' hSw; (try dsimp only at hSw); go_simp; try with_reducible rfl)
  try simp only [List.getElem_toArray, List.getElem_cons_zero, List.getElem_cons_succ, Act.put, List.setIfInBounds_toArray, List.set_cons_zero, List.set_cons_succ]
  refine wpAnyK_oneL (i := 3) rfl (by kernel_rfl) (fun K hK => ?_)
  go_simp
  go_at_call 28
  refine (degreeP_c m o t.length c _ hml).mono ?_
  rintro e wd1 ⟨rfl, hbd1⟩
  have hd1 : Below w3.heap.size w3 wd1 := (by (repeat (first | exact bR _ _ | (refine bS ?_ _) | (refine bA ?_ _) | (refine bN ?_ _) | (refine bD ?_) | (refine bT ?_ hbd1))))
  have hsd1 := hd1.size
  have hsz1_ := hbd1.size
  (try simp at hsz1_)
  obtain ⟨f1_a, f1_b⟩ := ((F3).below hd1 (Nat.le_refl _))
  go_wp2_with fail
  clear hHeld
  have hHeld : (fun w' : World => w'.cell? ⟨p, 0, none⟩ = some (.int .i64 m) ∧ w'.cell? ⟨p, 1, none⟩ = some (.slice o t.length c)) wd1 := by go_keep
  refine hK.out _ _ (fun _ => hHeld) ?_
  clear hK K
  try simp only [List.getElem_toArray, List.getElem_cons_zero, List.getElem_cons_succ, Act.put, List.setIfInBounds_toArray, List.set_cons_zero, List.set_cons_succ]
  refine wpAnyK_oneL (i := 5) rfl (by kernel_rfl) (fun K hK => ?_)
  go_simp
  refine (strictCurves_c m _ n _ wd1 (fun w' => ∃ (g : Nat) (u : World), wd1.heap.size ≤ g ∧ Below wd1.heap.size wd1 u ∧ InvO m p q w (.slice o t.length c) (texB m t) (autN m n t (m.toNat ^ (n - 2))) none w' ∧ Ch [g, q + 1] none u w') (by have := HN0.out; omega) (by omega) (by omega) (fun g cz u h1 h2 h3 h4 => ?_)).mono ?_
  · (have hw3u : Below w3.heap.size w3 u := hd1.trans (h3.mono hsd1); have hwou : Below wo.heap.size wo u := hA.trans (hw3u.mono hA.size); have hi : InvO m p q w (.slice o t.length c) (texB m t) 0 none u := ⟨fun k hk => (hwou.block k (by omega)).trans (hbel k hk), F3.below hw3u (Nat.le_refl _), Y3.below hw3u (Nat.le_refl _), by rw [← HOW.out]; exact hO.below hwou (Nat.le_refl _), hN.below hwou (Nat.le_refl _), fun k => (World.frozen?_of_block (hwou.block (q + 1) (by omega))).trans (hz k), rfl⟩; refine (orbWalk m n p q g cz w u _ t hq (by omega) (by omega) h2 hm hm' h2n hn HT.out ht0 HV.out hten hM hi h4).mono ?_; rintro e w' ⟨he, hi', hc'⟩; exact ⟨he, g, u, h1, h3, hi', hc'⟩)
  rintro e w9 ⟨rfl, g, u9, hg9, hb9, hi9, hc9⟩
  have Bu : Below wo.heap.size wo u9 := hA.trans ((hd1.trans (hb9.mono hsd1)).mono hA.size)
  have B9 : Below (q + 1) wo w9 := (Bu.mono (by omega)).trans (hc9.below (fun x hx => by simp at hx; omega) (fun j hj => by cases hj) (by have := Bu.size; omega))
  go_wp2_with fail
  refine hK.out _ _ (fun h => absurd h (by decide)) ?_
  clear hK K
  try simp only [List.getElem_toArray, List.getElem_cons_zero, List.getElem_cons_succ, Act.put, List.setIfInBounds_toArray, List.set_cons_zero, List.set_cons_succ]
  refine wpAnyK_done (by kernel_rfl) ?_ _
  go_wp2
  exact bodyPost_end (v := .tuple #[]) (by simp [results, Tryz.results18, go_sem]) rfl ⟨rfl, hi9.N, B9⟩
end Go.Proofs.YtfpphfjlpgefaaaGreatDoor
set_option linter.unusedSimpArgs false
set_option linter.unusedVariables false
namespace Go.Proofs.YtfpphfjlpgefaaaGreatDoor
open Go.RowKit

set_option maxHeartbeats 400000 in
set_option maxRecDepth 100000 in
theorem CountStrictAutomorphisms_c (m : Int) (v : Value) (t : List (List Int)) (w : World) (hv : RdT w v t) (hten : TenT w) :
    Calls Tryz.prog 7 #[.agg #[.int .i64 m, v]] w fun e w' => IEnd w w' (autR m t) e := by
  obtain ⟨o, c, rfl, hmt, -⟩ := id hv
  have hml := hmt.1
  clear hmt
  by_cases hc : l11R m t = 0
  · have hlaw : lawB m t = true := by
      cases h : lawB m t
      · unfold l11R at hc; rw [h] at hc; simp at hc
      · rfl
    have hp := (lawB_t hlaw).1
    have hm := pla_m hp
    have hn := pla_n hp
    have hn2 : ¬ t.length = 2 := fun h => by unfold l11R at hc; rw [hlaw, if_pos rfl, if_pos h] at hc; simp at hc
    have hle : ¬ 300 < m ^ (t.length - 2) := fun h => by unfold l11R at hc; rw [hlaw, if_pos rfl, if_neg hn2, if_pos h] at hc; simp at hc
    have HR := Lib.hid (show autR m t = ⟨autN m t.length t (m.toNat ^ (t.length - 2)), 0⟩ by unfold autR; rw [if_pos hc])
    have hK300 : m.toNat ^ (t.length - 2) ≤ 300 := by
      have hmn : ((m.toNat : Nat) : Int) = m := by omega
      have : ((m.toNat ^ (t.length - 2) : Nat) : Int) = m ^ (t.length - 2) := by rw [Int.natCast_pow, hmn]
      omega
    have HK3 := Lib.hid hK300
    have ht : PlaT m t.length t := ⟨rfl, pla_row hp⟩
    have HT := Lib.hid ht
    have HZ := Lib.hid (law_00 hlaw)
    have HL := Lib.hid hc
    have hcc : ((0 : Int) != 0) = false := by simp
    clear hc hle ht hK300 hn2
    go_enter Tryz.func7, Tryz.ntmps7
    go_wp2_with fail
    (have X0 := ((RB2.mk1 w  (.int .i64 m) (.slice o t.length c) 28).1).below (w' := (w.alloc (.cells #[.int .i64 m, .slice o t.length c] 28))) (by (repeat (first | exact bR _ _ | (refine bS ?_ _) | (refine bA ?_ _) | (refine bN ?_ _) | (refine bD ?_)))) (Nat.le_refl _); have B0 : Below w.heap.size w (w.alloc (.cells #[.int .i64 m, .slice o t.length c] 28)) := (by (repeat (first | exact bR _ _ | (refine bS ?_ _) | (refine bA ?_ _) | (refine bN ?_ _) | (refine bD ?_)))); have hv0 := hv.below (w' := (w.alloc (.cells #[.int .i64 m, .slice o t.length c] 28))) (by (repeat (first | exact bR _ _ | (refine bS ?_ _) | (refine bA ?_ _) | (refine bN ?_ _) | (refine bD ?_)))) (Nat.le_refl _); generalize w.alloc (.cells #[.int .i64 m, .slice o t.length c] 28) = w0 at X0 B0 hv0 ⊢)
    (obtain ⟨gqX0, gqX1⟩ := id X0; go_wp2_with fail; refine (classed_c m _ t _ hv0).mono ?_; rw [HL.out]; rintro e w1 ⟨rfl, hb⟩; (have X1 := X0.below hb (Nat.le_refl _); have hv1 := hv0.below hb (Nat.le_refl _); have B1 := B0.trans (hb.mono B0.size)); clear gqX0 gqX1; clear hb)
    obtain ⟨x0, x1⟩ := id X1
    go_wp2_with fail
    refine (textOf_c m _ t.length t _ hv1 hp HT.out (hten.below B1)).mono ?_
    rintro e w2 ⟨rfl, hb⟩
    (have X2 := X1.below hb (Nat.le_refl _); have hv2 := hv1.below hb (Nat.le_refl _); have B2 := B1.trans (hb.mono B1.size))
    clear x0 x1
    obtain ⟨x0, x1⟩ := id X2
    have hlX := X2.lt
    have hT2 := hten.below B2
    have hB3 : Below w2.heap.size w2 ((w2.alloc (.cells #[.string (texB m t)] 9)).alloc (.cells #[.int .i64 0] 2)) := (by (repeat (first | exact bR _ _ | (refine bS ?_ _) | (refine bA ?_ _) | (refine bN ?_ _) | (refine bD ?_))))
    have O3 : Cel1 ((w2.alloc (.cells #[.string (texB m t)] 9)).alloc (.cells #[.int .i64 0] 2)) w2.heap.size 0 (.string (texB m t)) :=
      (show Cel1 (w2.alloc (.cells #[.string (texB m t)] 9)) w2.heap.size 0 (.string (texB m t)) from ⟨by simp⟩).below (by (repeat (first | exact bR _ _ | (refine bS ?_ _) | (refine bA ?_ _) | (refine bN ?_ _) | (refine bD ?_)))) (Nat.le_refl _)
    have h1s := (show (w2.alloc (.cells #[.string (texB m t)] 9)).heap.size = w2.heap.size + 1 by simp)
    have N3 : Cel1 ((w2.alloc (.cells #[.string (texB m t)] 9)).alloc (.cells #[.int .i64 0] 2)) (w2.heap.size + 1) 0 (.int .i64 0) := ⟨by rw [← h1s]; simp⟩
    have Z3 : ∀ k, ((w2.alloc (.cells #[.string (texB m t)] 9)).alloc (.cells #[.int .i64 0] 2)).frozen? ⟨w2.heap.size + 1, k, none⟩ = false := fun k => by rw [← h1s]; exact frozen_new _ _ _ _
    have S3 : ((w2.alloc (.cells #[.string (texB m t)] 9)).alloc (.cells #[.int .i64 0] 2)).heap.size = w2.heap.size + 2 := by simp
    have hne1 : w.heap.size ≠ w2.heap.size := by omega
    have hne2 : w.heap.size ≠ w2.heap.size + 1 := by omega
    go_wp2_with fail
    generalize (w2.alloc (.cells #[.string (texB m t)] 9)).alloc (.cells #[.int .i64 0] 2) = w3 at hB3 O3 N3 Z3 S3 ⊢
    have B2s := B2.size
    have B3 := B2.trans (hB3.mono B2s)
    refine (orbit_c m t.length w2.heap.size w2 w3 o c t (texB m t) rfl hml rfl (Nat.le_refl _) (by omega) (by omega) (by omega) (by omega) (by omega) HT.out HZ.out hv2 hT2 HK3.out (fun k hk => hB3.block k hk) O3 N3 Z3).mono ?_
    rintro e w4 ⟨rfl, hN4, hb4⟩
    have c4 := hN4.get
    go_wp2
    go_ret2
    exact ⟨by rw [HR.out]; rfl, B3.trans (hb4.mono (by omega))⟩
  · have hR2 : autR m t = ⟨0, l11R m t⟩ := by unfold autR; rw [if_neg hc]
    rw [hR2]
    clear hR2
    obtain ⟨cc, hcc0⟩ : ∃ cc, l11R m t = cc := ⟨_, rfl⟩
    rw [hcc0] at hc ⊢
    have HL := Lib.hid hcc0
    clear hcc0
    have hcc : (cc != 0) = true := by simpa using hc
    clear hc
    go_enter Tryz.func7, Tryz.ntmps7
    go_wp2_with fail
    (have X0 := ((RB2.mk1 w  (.int .i64 m) (.slice o t.length c) 28).1).below (w' := (w.alloc (.cells #[.int .i64 m, .slice o t.length c] 28))) (by (repeat (first | exact bR _ _ | (refine bS ?_ _) | (refine bA ?_ _) | (refine bN ?_ _) | (refine bD ?_)))) (Nat.le_refl _); have B0 : Below w.heap.size w (w.alloc (.cells #[.int .i64 m, .slice o t.length c] 28)) := (by (repeat (first | exact bR _ _ | (refine bS ?_ _) | (refine bA ?_ _) | (refine bN ?_ _) | (refine bD ?_)))); have hv0 := hv.below (w' := (w.alloc (.cells #[.int .i64 m, .slice o t.length c] 28))) (by (repeat (first | exact bR _ _ | (refine bS ?_ _) | (refine bA ?_ _) | (refine bN ?_ _) | (refine bD ?_)))) (Nat.le_refl _); generalize w.alloc (.cells #[.int .i64 m, .slice o t.length c] 28) = w0 at X0 B0 hv0 ⊢)
    (obtain ⟨gqX0, gqX1⟩ := id X0; go_wp2_with fail; refine (classed_c m _ t _ hv0).mono ?_; rw [HL.out]; rintro e w1 ⟨rfl, hb⟩; (have X1 := X0.below hb (Nat.le_refl _); have B1 := B0.trans (hb.mono B0.size)); clear gqX0 gqX1; clear hb)
    go_wp2
    go_ret2
    exact ⟨rfl, B1⟩
end Go.Proofs.YtfpphfjlpgefaaaGreatDoor
