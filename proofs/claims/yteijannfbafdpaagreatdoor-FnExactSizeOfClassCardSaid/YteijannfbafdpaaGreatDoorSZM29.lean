/- Lemmas. -/
import Derived.Test.YteijannfbafdpaaGreatDoorSZM28
import Derived.Test.YteijannfbafdpaaGreatDoorSZM20
import Derived.Test.YteijannfbafdpaaGreatDoorSZM25
import Derived.Test.YteijannfbafdpaaGreatDoorSZM18
import Derived.Maps.OwnSet
set_option linter.unusedSimpArgs false
set_option linter.unusedVariables false
namespace Go.Proofs.YteijannfbafdpaaGreatDoor
open Go.RowKit

set_option maxHeartbeats 400000 in
set_option maxRecDepth 100000 in
theorem strictCurves_c (m d : Int) (n : Nat) (fv : Value) (w : World) (Q : World → Prop) (hd : d + 1 = n) (h2 : 2 ≤ n) (hn : n ≤ 1000)
    (hcv : ∀ (g cz : Nat) (u : World), w.heap.size ≤ g → g < u.heap.size → Below w.heap.size w u → OwI u g (.slice (some ⟨g, 0, none⟩) n cz) (varL n) →
      Calls Tryz.prog 58 #[.agg #[.int .i64 m, .slice (some ⟨g, 0, none⟩) n cz], .int .i64 2, fv] u fun e w' => (∃ bb, e = .returned (.bool bb)) ∧ Q w') :
    Calls Tryz.prog 33 #[.int .i64 m, .int .i64 d, fv] w fun e w' => e = .returned (.tuple #[]) ∧ Q w' := by
  have HC := Lib.hid hcv
  clear hcv
  go_enter Tryz.func33, Tryz.ntmps33
  go_wp2_with fail
  refine (variable_c m d n _ hd h2 (by omega)).mono ?_
  rintro e w1 ⟨vz, rfl, how, hb⟩
  obtain ⟨oz, cz, rfl⟩ := how.shapeN (n := n) (varL_len _)
  obtain ⟨g, rfl, hgl, hgl'⟩ := how.row (by omega)
  go_wp2_with fail
  refine (HC.out g cz _ hgl hgl' hb how.raise).mono ?_
  rintro e w2 ⟨⟨bb, rfl⟩, hq⟩
  go_wp2
  exact bodyPost_end (v := .tuple #[]) (by simp [results, Tryz.results33, go_sem]) rfl ⟨rfl, hq⟩

theorem varL_2 {n : Nat} (h : 2 ≤ n) : (varL n).take 2 = [0, 1] := by
  obtain ⟨k, rfl⟩ : ∃ k, n = k + 2 := ⟨n - 2, by omega⟩
  simp [varL, List.replicate_succ]
end Go.Proofs.YteijannfbafdpaaGreatDoor
set_option linter.unusedSimpArgs false
set_option linter.unusedVariables false
namespace Go.Proofs.YteijannfbafdpaaGreatDoor
open Go.RowKit

theorem plaB_of {m : Int} {n : Nat} {t : List (List Int)} (hm : 2 ≤ m) (hm' : m ≤ 10000) (h2 : 2 ≤ n) (hn : n ≤ 11) (h : PlaT m n t) : plaB m t = true := by
  have hl := h.1
  simp only [plaB, modB, inB, Bool.and_eq_true, decide_eq_true_eq]
  refine ⟨⟨⟨hm, hm'⟩, by omega, by omega⟩, ?_⟩
  refine rowsB_t fun j hj => ?_
  obtain ⟨h3, h4⟩ := h.2 j hj
  simp only [rowB, numsB, inB, Bool.and_eq_true, decide_eq_true_eq, List.all_eq_true]
  exact ⟨h3, fun x hx => by have := h4 x hx; omega⟩

set_option maxHeartbeats 400000 in
set_option maxRecDepth 100000 in
theorem classable_c (m d : Int) (k : Nat) (w : World) (hm : 2 ≤ m) (hm' : m ≤ 10000) (hd : d = (k : Int) + 1) (hk1 : 1 ≤ k) (hk : k ≤ 9) (r : Int) (hr : r = if 300 < m ^ k then 3 else 0) :
    Calls Tryz.prog 32 #[.int .i64 m, .int .i64 d] w fun e w' => e = .returned (.int .i64 r) ∧ w = w' := by
  subst hd
  have hmod : modB m = true := by simp [modB, inB]; omega
  have hin : inB ((k : Int) + 1) 2 10 = true := by simp [inB]; omega
  have hcl : decide (300 < cntAt m 300 k 1) = decide (300 < m ^ k) := by
    have h := cnt_large (m := m) (most := 300) (by omega) k 1 (by omega) (by omega)
    obtain ⟨j, rfl⟩ : ∃ j, k = j + 1 := ⟨k - 1, by omega⟩
    simp only [Int.one_mul] at h
    exact h
  have e0 : IntKind.i64.wrap ((k : Int) + 1 - 1) = (k : Int) := by rw [IntWalk.i64_in _ (by omega)]; omega
  by_cases h3 : 300 < m ^ k
  · have hq : 300 < cntAt m 300 k 1 := by rw [decide_eq_true h3] at hcl; simpa using hcl
    obtain rfl : r = 3 := by rw [hr, if_pos h3]
    clear hcl h3 hr
    go_enter Tryz.func32, Tryz.ntmps32
    go_wp2_with (first | (go_at_call 55; go_loud (refine (IsModulus_c _ _).mono ?_; rw [hmod]; rintro e w' ⟨rfl, rfl⟩)) | (go_at_call 56; go_loud (refine (in_c _ _ _ _).mono ?_; rw [hin]; rintro e w' ⟨rfl, rfl⟩)) | (go_at_call 57; go_loud (refine (countAtMost_c m _ 300 k _ (by omega) (by omega) hm hm' (by omega) (by omega)).mono ?_; rintro e w' ⟨rfl, rfl⟩)))
    go_ret
    exact ⟨rfl, rfl⟩
  · have hq : ¬ 300 < cntAt m 300 k 1 := by rw [decide_eq_false h3] at hcl; simpa using hcl
    obtain rfl : r = 0 := by rw [hr, if_neg h3]
    clear hcl h3 hr
    go_enter Tryz.func32, Tryz.ntmps32
    go_wp2_with (first | (go_at_call 55; go_loud (refine (IsModulus_c _ _).mono ?_; rw [hmod]; rintro e w' ⟨rfl, rfl⟩)) | (go_at_call 56; go_loud (refine (in_c _ _ _ _).mono ?_; rw [hin]; rintro e w' ⟨rfl, rfl⟩)) | (go_at_call 57; go_loud (refine (countAtMost_c m _ 300 k _ (by omega) (by omega) hm hm' (by omega) (by omega)).mono ?_; rintro e w' ⟨rfl, rfl⟩)))
    go_ret
    exact ⟨rfl, rfl⟩

set_option maxHeartbeats 400000 in
set_option maxRecDepth 100000 in
theorem classed_c (m : Int) (v : Value) (t : List (List Int)) (w : World) (hv : RdT w v t) :
    Calls Tryz.prog 16 #[.agg #[.int .i64 m, v]] w fun e w' => e = .returned (.int .i64 (l11R m t)) ∧ Below w.heap.size w w' := by
  obtain ⟨o, c, rfl, hmt, -⟩ := id hv
  have hml := hmt.1
  clear hmt
  cases hl : lawB m t
  · have HR := Lib.hid (show l11R m t = 1 by unfold l11R; rw [hl]; rfl)
    go_enter Tryz.func16, Tryz.ntmps16
    go_wp2_with fail
    (obtain ⟨w0, hw0⟩ : ∃ W : World, W = (w.alloc (.cells #[.int .i64 m, .slice o t.length c] 28)) := ⟨_, rfl⟩; have X0 := (RB2.mk1 w  (.int .i64 m) (.slice o t.length c) 28).1.below (w' := w0) (by rw [hw0]; (repeat (first | exact bR _ _ | (refine bS ?_ _) | (refine bA ?_ _) | (refine bN ?_ _) | (refine bD ?_)))) (Nat.le_refl _); have B0 : Below w.heap.size w w0 := (by rw [hw0]; (repeat (first | exact bR _ _ | (refine bS ?_ _) | (refine bA ?_ _) | (refine bN ?_ _) | (refine bD ?_)))); have hv0 := hv.below (w' := w0) (by rw [hw0]; (repeat (first | exact bR _ _ | (refine bS ?_ _) | (refine bA ?_ _) | (refine bN ?_ _) | (refine bD ?_)))) (Nat.le_refl _); rw [← hw0]; clear hw0)
    (obtain ⟨gqX0, gqX1⟩ := id X0; go_wp2_with fail; refine (IsLaw_c m _ t _ hv0).mono ?_; rw [hl]; rintro e w1 ⟨rfl, hb⟩; (have X1 := X0.below hb (Nat.le_refl _); have B1 := B0.trans (hb.mono B0.size)); clear gqX0 gqX1; clear hb)
    go_wp2
    go_ret
    exact ⟨by rw [HR.out]; rfl, B1⟩
  · have hp := (lawB_t hl).1
    have hm := pla_m hp
    have hn := pla_n hp
    by_cases h2 : t.length = 2
    · have HR := Lib.hid (show l11R m t = 5 by unfold l11R; rw [hl, if_pos rfl, if_pos h2])
      have hq : (t.length : Int) - 1 < 2 := by omega
      clear h2
      go_enter Tryz.func16, Tryz.ntmps16
      go_wp2_with fail
      (obtain ⟨w0, hw0⟩ : ∃ W : World, W = (w.alloc (.cells #[.int .i64 m, .slice o t.length c] 28)) := ⟨_, rfl⟩; have X0 := (RB2.mk1 w  (.int .i64 m) (.slice o t.length c) 28).1.below (w' := w0) (by rw [hw0]; (repeat (first | exact bR _ _ | (refine bS ?_ _) | (refine bA ?_ _) | (refine bN ?_ _) | (refine bD ?_)))) (Nat.le_refl _); have B0 : Below w.heap.size w w0 := (by rw [hw0]; (repeat (first | exact bR _ _ | (refine bS ?_ _) | (refine bA ?_ _) | (refine bN ?_ _) | (refine bD ?_)))); have hv0 := hv.below (w' := w0) (by rw [hw0]; (repeat (first | exact bR _ _ | (refine bS ?_ _) | (refine bA ?_ _) | (refine bN ?_ _) | (refine bD ?_)))) (Nat.le_refl _); rw [← hw0]; clear hw0)
      (obtain ⟨gqX0, gqX1⟩ := id X0; go_wp2_with fail; refine (IsLaw_c m _ t _ hv0).mono ?_; rw [hl]; rintro e w1 ⟨rfl, hb⟩; (have X1 := X0.below hb (Nat.le_refl _); have B1 := B0.trans (hb.mono B0.size)); clear gqX0 gqX1; clear hb)
      (obtain ⟨gqX0, gqX1⟩ := id X1; go_wp2_with fail; refine (degreeP_c m o t.length c _ hml).mono ?_; rintro e w2 ⟨rfl, hb⟩; (have X2 := X1.below hb (Nat.le_refl _); have B2 := B1.trans (hb.mono B1.size)); clear gqX0 gqX1; clear hb)
      go_wp2
      go_ret
      exact ⟨by rw [HR.out]; rfl, B2⟩
    · have hq : ¬ (t.length : Int) - 1 < 2 := by omega
      have HR := Lib.hid (show l11R m t = if 300 < m ^ (t.length - 2) then 3 else 0 by unfold l11R; rw [hl, if_pos rfl, if_neg h2])
      clear h2
      go_enter Tryz.func16, Tryz.ntmps16
      go_wp2_with fail
      (obtain ⟨w0, hw0⟩ : ∃ W : World, W = (w.alloc (.cells #[.int .i64 m, .slice o t.length c] 28)) := ⟨_, rfl⟩; have X0 := (RB2.mk1 w  (.int .i64 m) (.slice o t.length c) 28).1.below (w' := w0) (by rw [hw0]; (repeat (first | exact bR _ _ | (refine bS ?_ _) | (refine bA ?_ _) | (refine bN ?_ _) | (refine bD ?_)))) (Nat.le_refl _); have B0 : Below w.heap.size w w0 := (by rw [hw0]; (repeat (first | exact bR _ _ | (refine bS ?_ _) | (refine bA ?_ _) | (refine bN ?_ _) | (refine bD ?_)))); have hv0 := hv.below (w' := w0) (by rw [hw0]; (repeat (first | exact bR _ _ | (refine bS ?_ _) | (refine bA ?_ _) | (refine bN ?_ _) | (refine bD ?_)))) (Nat.le_refl _); rw [← hw0]; clear hw0)
      (obtain ⟨gqX0, gqX1⟩ := id X0; go_wp2_with fail; refine (IsLaw_c m _ t _ hv0).mono ?_; rw [hl]; rintro e w1 ⟨rfl, hb⟩; (have X1 := X0.below hb (Nat.le_refl _); have B1 := B0.trans (hb.mono B0.size)); clear gqX0 gqX1; clear hb)
      (obtain ⟨gqX0, gqX1⟩ := id X1; go_wp2_with fail; refine (degreeP_c m o t.length c _ hml).mono ?_; rintro e w2 ⟨rfl, hb⟩; (have X2 := X1.below hb (Nat.le_refl _); have B2 := B1.trans (hb.mono B1.size)); clear gqX0 gqX1; clear hb)
      obtain ⟨x0, x1⟩ := id X2
      have hX := X2
      go_wp2_with fail
      have hd0 : Below w2.heap.size w2 w2.drew := (Below.refl _ _).drew
      have hsd0 := hd0.size
      obtain ⟨f0_a, f0_b⟩ := ((hX).below (Below.refl w2.heap.size w2) (Nat.le_refl _))
      refine wp_region_K (S := fun w' => w'.cell? ⟨w.heap.size, 0, none⟩ = some (.int .i64 m) ∧ w'.cell? ⟨w.heap.size, 1, none⟩ = some (.slice o t.length c)) [] (by kernel_rfl) ?_
      have hHeld : (fun w' : World => w'.cell? ⟨w.heap.size, 0, none⟩ = some (.int .i64 m) ∧ w'.cell? ⟨w.heap.size, 1, none⟩ = some (.slice o t.length c)) w2.drew := by go_keep
      refine' wpAnyK_takeL (i := 0) (v := _) rfl (by kernel_rfl) (by kernel_rfl) (by kernel_rfl) (by kernel_rfl) (fun _ _ _ h => h) (Or.inl ⟨by rfl, ?yT1⟩) hHeld ?rT1
      case yT1 => (intro w' hSw; (try dsimp only at hSw); go_simp; try with_reducible rfl)
      try simp only [List.getElem_toArray, List.getElem_cons_zero, List.getElem_cons_succ, Act.put, List.setIfInBounds_toArray, List.set_cons_zero, List.set_cons_succ]
      refine' wpAnyK_takeL (i := 1) (v := _) rfl (by kernel_rfl) (by kernel_rfl) (by kernel_rfl) (by kernel_rfl) (fun _ _ _ h => h) (Or.inl ⟨by rfl, ?yT2⟩) hHeld ?rT2
      case yT2 => (intro w' hSw; (try dsimp only at hSw); go_simp; try with_reducible rfl)
      try simp only [List.getElem_toArray, List.getElem_cons_zero, List.getElem_cons_succ, Act.put, List.setIfInBounds_toArray, List.set_cons_zero, List.set_cons_succ]
      refine' wpAnyK_takeL (i := 2) (v := _) rfl (by kernel_rfl) (by kernel_rfl) (by kernel_rfl) (by kernel_rfl) (fun _ _ _ h => h) (Or.inl ⟨by rfl, ?yT3⟩) hHeld ?rT3
      case yT3 => (intro w' hSw; (try dsimp only at hSw); go_simp; try with_reducible rfl)
      try simp only [List.getElem_toArray, List.getElem_cons_zero, List.getElem_cons_succ, Act.put, List.setIfInBounds_toArray, List.set_cons_zero, List.set_cons_succ]
      refine wpAnyK_oneL (i := 3) rfl (by kernel_rfl) (fun K hK => ?_)
      go_simp
      go_at_call 31
      refine (degreeP_c m o t.length c _ hml).mono ?_
      rintro e wd1 ⟨rfl, hbd1⟩
      have hd1 : Below w2.heap.size w2 wd1 := (by (repeat (first | exact bR _ _ | (refine bS ?_ _) | (refine bA ?_ _) | (refine bN ?_ _) | (refine bD ?_) | (refine bT ?_ hbd1))))
      have hsd1 := hd1.size
      have hsz1_ := hbd1.size
      (try simp at hsz1_)
      obtain ⟨f1_a, f1_b⟩ := ((hX).below hd1 (Nat.le_refl _))
      go_wp2_with fail
      clear hHeld
      have hHeld : (fun w' : World => w'.cell? ⟨w.heap.size, 0, none⟩ = some (.int .i64 m) ∧ w'.cell? ⟨w.heap.size, 1, none⟩ = some (.slice o t.length c)) wd1 := by go_keep
      refine hK.out _ _ (fun _ => hHeld) ?_
      clear hK K
      try simp only [List.getElem_toArray, List.getElem_cons_zero, List.getElem_cons_succ, Act.put, List.setIfInBounds_toArray, List.set_cons_zero, List.set_cons_succ]
      refine wpAnyK_oneL (i := 4) rfl (by kernel_rfl) (fun K hK => ?_)
      go_simp
      go_at_call 32
      refine (classable_c m _ (t.length - 2) _ (by omega) (by omega) (by omega) (by omega) (by omega) (l11R m t) HR.out).mono ?_
      rintro e w' ⟨rfl, rfl⟩
      go_wp2_with fail
      refine hK.out _ _ (fun _ => hHeld) ?_
      clear hK K
      try simp only [List.getElem_toArray, List.getElem_cons_zero, List.getElem_cons_succ, Act.put, List.setIfInBounds_toArray, List.set_cons_zero, List.set_cons_succ]
      refine wpAnyK_oneL (i := 5) rfl (by kernel_rfl) (fun K hK => ?_)
      go_simp
      (try go_wp2_with fail)
      refine hK.out _ _ (fun _ => hHeld) ?_
      clear hK K
      try simp only [List.getElem_toArray, List.getElem_cons_zero, List.getElem_cons_succ, Act.put, List.setIfInBounds_toArray, List.set_cons_zero, List.set_cons_succ]
      refine wpAnyK_done (by kernel_rfl) ?_ _
      go_wp2
      go_ret
      exact ⟨rfl, B2.trans (hd1.mono B2.size)⟩

end Go.Proofs.YteijannfbafdpaaGreatDoor
set_option linter.unusedSimpArgs false
set_option linter.unusedVariables false
namespace Go.Proofs.YteijannfbafdpaaGreatDoor
open Go.RowKit
open Go.Maps Go.WideMaps

theorem dec_len (u : Nat) : (Lib.decDigits u).length ≤ u + 1 := by
  induction u using Nat.strongRecOn with
  | _ u ih =>
    rw [Lib.decDigits]
    split
    · simp
    · rename_i h
      have := ih (u / 10) (by omega)
      rw [List.length_append]
      simp; omega
theorem join_len {s : UInt8} {b : Nat} : ∀ {l : List (List UInt8)}, (∀ p ∈ l, p.length ≤ b) → (Lib.join l [s]).length ≤ l.length * (b + 1)
  | [], _ => by simp [Lib.join_nil]
  | [a], h => by
    rw [Lib.join_one]
    have := h a (by simp)
    simp; omega
  | a :: c :: l, h => by
    rw [join_two, List.length_append, List.length_cons]
    have h1 := h a (by simp)
    have h2 := join_len (s := s) (l := c :: l) (fun p hp => h p (List.mem_cons_of_mem _ hp))
    rw [List.length_cons (a := a), Nat.succ_mul]
    omega
theorem texB_size {m : Int} {n : Nat} {t : List (List Int)} (hm : 2 ≤ m) (hm' : m ≤ 10000) (hn : n ≤ 11) (ht : PlaT m n t) : (texB m t).size ≤ maxLen := by
  have hi : ∀ x : Int, 0 ≤ x → x ≤ 10000 → (Lib.itoa x).length ≤ 10001 := fun x h0 h1 => by
    rw [itoa_pos h0]
    have := dec_len x.toNat
    omega
  have hrow : ∀ r ∈ t, (rowX r).length ≤ 11 * 10002 := fun r hr => by
    obtain ⟨i, hi', rfl⟩ := List.getElem_of_mem hr
    obtain ⟨h1, h2⟩ := ht.2 i hi'
    have h := join_len (s := 44) (b := 10001) (l := (t[i]).map Lib.itoa) (fun p hp => by
      obtain ⟨x, hx, rfl⟩ := List.mem_map.1 hp
      have := h2 x hx
      exact hi x (by omega) (by omega))
    rw [List.length_map, h1] at h
    have hl := ht.1
    exact Nat.le_trans h (Nat.mul_le_mul_right _ (by omega))
  have h := join_len (s := 47) (b := 11 * 10002) (l := t.map rowX) (fun p hp => by
    obtain ⟨r, hr, rfl⟩ := List.mem_map.1 hp
    exact hrow r hr)
  rw [List.length_map, ht.1] at h
  have h2 : (tabX t).length ≤ 11 * (11 * 10002 + 1) := Nat.le_trans h (Nat.mul_le_mul_right _ hn)
  have h3 := hi m (by omega) hm'
  unfold texB
  rw [ByteArray.size_append, ByteArray.size_append]
  show (Lib.itoa m).toArray.size + 1 + (tabX t).toArray.size ≤ maxLen
  rw [List.size_toArray, List.size_toArray]
  unfold maxLen
  omega
def keyL (s : ByteArray) : Lit := .string s.data.toList
theorem keyL_key (s : ByteArray) : WideAt.IsKeyLit (keyL s) := True.intro
def setL (l : List ByteArray) : DataW Unit := setOf (.lit (.bool true)) (l.map keyL)
theorem setL_snoc (l : List ByteArray) (s : ByteArray) : setL (l ++ [s]) = (setL l).put (keyL s) (.lit (.bool true)) := by
  unfold setL
  rw [List.map_append]
  exact setOf_snoc _ _ _
theorem size_dis (f : Nat → ByteArray) : ∀ k, Maps.size (setL ((List.range k).map f)) = disN (fun j => (f j).data.toList) k
  | 0 => rfl
  | k + 1 => by
    have ih := size_dis f k
    have ht : Tidy (setL ((List.range k).map f)) := tidy_setOf _ _ (fun x hx => by
      obtain ⟨s, -, rfl⟩ := List.mem_map.1 hx
      exact keyL_key s)
    have hh : Maps.has (setL ((List.range k).map f)) (keyL (f k)) = decide ((f k).data.toList ∈ (List.range k).map (fun j => (f j).data.toList)) := by
      unfold setL
      rw [has_setOf _ _ _ (fun x hx => by
        obtain ⟨s, -, rfl⟩ := List.mem_map.1 hx
        exact keyL_key s), Bool.eq_iff_iff, decide_eq_true_iff, List.any_eq_true]
      constructor
      · rintro ⟨x, hx, he⟩
        obtain ⟨s, hs, rfl⟩ := List.mem_map.1 hx
        obtain ⟨j, hj, rfl⟩ := List.mem_map.1 hs
        have := (WideAt.sameKey_iff (keyL_key (f k))).1 he
        exact List.mem_map.2 ⟨j, hj, Lit.string.inj this⟩
      · intro h
        obtain ⟨j, hj, he⟩ := List.mem_map.1 h
        exact ⟨keyL (f j), List.mem_map.2 ⟨f j, List.mem_map.2 ⟨j, hj, rfl⟩, rfl⟩, (WideAt.sameKey_iff (keyL_key (f k))).2 (by unfold keyL; rw [he])⟩
    rw [List.range_succ, List.map_append, show ([k].map f) = [f k] from rfl, setL_snoc, size_put ht, hh, ih]
    simp only [disN]
    by_cases hm : (f k).data.toList ∈ (List.range k).map (fun j => (f j).data.toList)
    · rw [if_pos (decide_eq_true hm), if_pos hm, Nat.add_zero]
    · rw [if_neg (by simpa using hm), if_neg hm]
theorem size_con {m : Int} {n : Nat} {t : List (List Int)} (hm : 2 ≤ m) (k : Nat) : Maps.size (setL ((List.range k).map (fun j => texB m (conT m n t j)))) = disN (conT m n t) k := by
  rw [size_dis]
  refine disN_congr fun i j _ _ => ⟨fun h => ?_, fun h => by rw [h]⟩
  refine texB_inj (conT_ok (by omega) i) (conT_ok (by omega) j) ?_
  generalize texB m (conT m n t i) = a at h ⊢
  generalize texB m (conT m n t j) = b at h ⊢
  cases a; cases b; simp at h; rw [h]
def stZ (m : Int) (n : Nat) (t : List (List Int)) (xs : List Int) (l : List ByteArray) : List ByteArray × Bool := (l ++ [texB m (cooT m n t xs)], true)
theorem foldZ (m : Int) (n : Nat) (t : List (List Int)) : ∀ (L : List (List Int)) (l : List ByteArray), L.foldl (fun l xs => (stZ m n t xs l).1) l = l ++ L.map (fun xs => texB m (cooT m n t xs))
  | [], l => by simp
  | x :: L, l => by
    rw [List.foldl_cons, foldZ m n t L]
    simp [stZ]
theorem runZ {m : Int} {n : Nat} {t : List (List Int)} (hm : 2 ≤ m) : runC m.toNat (stZ m n t) (n - 2) [0, 1] [] = ((List.range (m.toNat ^ (n - 2))).map (fun j => texB m (conT m n t j)), true) := by
  rw [runC_true _ _ (fun _ _ => rfl), foldZ, allC_digs (by omega), List.map_map]
  rfl
def IsSet (w : World) (b : Nat) (l : List ByteArray) : Prop := w.ownsMap Tryz.prog 9 (plainElem (H := Unit) Tryz.prog 4) b l.length (setL l)
theorem IsSet.stay {w w' : World} {b : Nat} {l : List ByteArray} (h : IsSet w b l) (hk : w'.heap[b]? = w.heap[b]?) : IsSet w' b l := by
  obtain ⟨es, clock, h1, r⟩ := h
  exact ⟨es, clock, hk.trans h1, r⟩
theorem IsSet.lt {w : World} {b : Nat} {l : List ByteArray} (h : IsSet w b l) : b < w.heap.size := World.ownsMap.lt h
theorem law_str : Keyed Tryz.prog 9 := string_keyed Tryz.underlying9

set_option maxHeartbeats 400000 in
set_option maxRecDepth 100000 in
theorem cz1_c (s : ByteArray) (l : List ByteArray) (a b : Nat) (w : World) (h1 : w.cell? ⟨a, 0, none⟩ = some (.map (some b))) (hown : IsSet w b l) (hl : l.length ≤ 1000) (hs : s.size ≤ maxLen) :
    Calls Tryz.prog 18 #[.string s, .pointer (some ⟨a, 0, none⟩)] w fun e w' => e = .returned (.tuple #[]) ∧ IsSet w' b (l ++ [s]) ∧ w.grownBy w' (some b) := by
  have hkey : keyOf Tryz.prog 9 (.string s) = some (keyL s) := keyOf_string_mk Tryz.underlying9 hs
  have hO : w.ownsMap Tryz.prog 9 (plainElem (H := Unit) Tryz.prog 4) b l.length (setL l) := hown
  go_enter Tryz.func18, Tryz.ntmps18
  go_wp2_with (at_mapUpdate; go_loud (refine wpList_mapUpdate_own _ rfl _ _ _ 40 rfl 9 4 law_str Tryz.underlying40 (plainElem (H := Unit) Tryz.prog 4) b l.length _ rfl hO (by unfold maxLen; omega) _ _ _ rfl rfl hkey _ [] (plainElem_bool Tryz.underlying4 true) ?_; intro w1 hown1 hgrow1))
  have hS : IsSet w1 b (l ++ [s]) := by
    unfold IsSet
    rw [setL_snoc, List.length_append]
    exact hown1
  exact bodyPost_end (v := .tuple #[]) (by simp [results, Tryz.results18, go_sem]) rfl ⟨rfl, hS, hgrow1⟩
end Go.Proofs.YteijannfbafdpaaGreatDoor
set_option linter.unusedSimpArgs false
set_option linter.unusedVariables false
namespace Go.Proofs.YteijannfbafdpaaGreatDoor
open Go.RowKit

theorem TenT.of_heapZ {w u : World} (h : TenT w) (hs : w.heap.size ≤ u.heap.size) (hk : ∀ k, k < w.heap.size → u.heap[k]? = w.heap[k]?) : TenT u := by
  have h2 : TenT { u with os := w.os, tape := w.tape, output := w.output } := h.below ⟨rfl, rfl, rfl, hs, hk⟩
  exact h2

structure InvZ (m : Int) (p q : Nat) (w : World) (tv : Value) (l : List ByteArray) (o : Option Nat) (u : World) : Prop where
  bel : ∀ k, k < w.heap.size → u.heap[k]? = w.heap[k]?
  F : Box2 u p (.int .i64 m) tv
  Y : Cel1 u (p + 1) 0 (.func (.func 18) #[] #[.pointer (some ⟨q + 1, 0, none⟩)])
  O : Cel1 u (q + 1) 0 (.map (some q))
  N : IsSet u q l
  no : o = none
theorem InvZ.stay {m : Int} {p q g : Nat} {w : World} {tv : Value} {l : List ByteArray} {o : Option Nat} {u u' : World} (h : InvZ m p q w tv l o u) (hq : w.heap.size ≤ q) (hp : q + 2 ≤ p) (hg : p + 2 ≤ g) (hk : ∀ k, k < u.heap.size → k ≠ g → u'.heap[k]? = u.heap[k]?) : InvZ m p q w tv l o u' := by
  obtain ⟨h1, h2, h3, h4, h5, h7⟩ := h
  have l2 := h2.lt
  have l5 := h5.lt
  exact ⟨fun k k1 => (hk k (by omega) (by omega)).trans (h1 k k1), h2.blk (hk _ l2 (by omega)), h3.blk (hk _ h3.lt (by omega)), h4.blk (hk _ h4.lt (by omega)), h5.stay (hk _ l5 (by omega)), h7⟩
theorem InvZ.rd {m : Int} {p q : Nat} {w : World} {tv : Value} {l : List ByteArray} {o : Option Nat} {u : World} (h : InvZ m p q w tv l o u) {v : Value} {t : List (List Int)} (hv : RdT w v t) : RdT u v t := (RdT.rds hv).2 u (fun k _ hk => h.bel k hk)
theorem InvZ.ten {m : Int} {p q : Nat} {w : World} {tv : Value} {l : List ByteArray} {o : Option Nat} {u : World} (h : InvZ m p q w tv l o u) (hq : w.heap.size ≤ q) (hp : q + 2 ≤ p) (ht : TenT w) : TenT u := ht.of_heapZ (by have := h.F.lt; omega) h.bel

set_option maxHeartbeats 400000 in
set_option maxRecDepth 100000 in
theorem orbz1_c (m : Int) (n p q g : Nat) (w : World) (tv : Value) (t : List (List Int)) (hq : w.heap.size ≤ q) (hp : q + 2 ≤ p) (hg : p + 2 ≤ g) (hm : 2 ≤ m) (hm' : m ≤ 10000) (h2n : 2 ≤ n) (hn : n ≤ 11) (ht : PlaT m n t) (hv : RdT w tv t) (hten : TenT w)
    (xs : List Int) (l : List ByteArray) (o : Option Nat) (u0 u : World) (v : Value) (hi : InvZ m p q w tv l o u) (hb0 : Below u0.heap.size u0 u) (hB : g < u0.heap.size) (hx : OwI u u0.heap.size v xs) (hl : xs.length = n) (hr : ∀ x ∈ xs, 0 ≤ x ∧ x < m) (hl2 : l.length ≤ 1000) :
    Calls Tryz.prog 34 #[.agg #[.int .i64 m, v], .pointer (some ⟨p + 1, 0, none⟩), .pointer (some ⟨p, 0, none⟩)] u fun e w' =>
      e = .returned (.bool (stZ m n t xs l).2) ∧ ∃ o', InvZ m p q w tv (stZ m n t xs l).1 o' w' ∧ (o' = o ∨ ∃ j, o' = some j ∧ u0.heap.size ≤ j) ∧ Ch [q] o u w' := by
  obtain ⟨ov, cv, rfl⟩ := hx.shapeN hl
  have HT := Lib.hid ht
  have HX := Lib.hid hr
  obtain ⟨ot, ct, rfl, -, -⟩ := id hv
  have HV := Lib.hid hv
  clear ht hr hv
  have HP := Lib.hid (show PlaT m n (cooT m n t xs) from hornT_ok (by omega) _ _ _)
  have HSz := Lib.hid (texB_size hm hm' hn HP.out)
  have HSt := Lib.hid (show stZ m n t xs l = (l ++ [texB m (cooT m n t xs)], true) from rfl)
  generalize stZ m n t xs l = rr at HSt
  obtain ⟨r1, r2⟩ := rr
  have HPB := Lib.hid (plaB_of hm hm' h2n hn HP.out)
  have hb0s := hb0.size
  have hA : Below u.heap.size u (u.alloc (.cells #[.int .i64 m, .slice ov n cv] 57)) := (by (repeat (first | exact bR _ _ | (refine bS ?_ _) | (refine bA ?_ _) | (refine bN ?_ _) | (refine bD ?_))))
  have X0 := Box2.mk' u (.int .i64 m) (.slice ov n cv) 57
  have hi0 := hi.stay hq hp hg (fun k hk _ => hA.block k hk)
  have hx0 := hx.below hA
  have hAs := hA.size
  have hlu := hi.F.lt
  have hXp : p < u.heap.size := hlu
  have hXp1 : p + 1 < u.heap.size := hi.Y.lt
  go_enter Tryz.func34, Tryz.ntmps34
  go_wp2_with fail
  generalize u.alloc (.cells #[.int .i64 m, .slice ov n cv] 57) = u1 at hA X0 hi0 hx0 hAs ⊢
  have F1 := hi0.F
  have Y1 := hi0.Y
  have hRt := hi0.rd HV.out
  have hT1 := hi0.ten hq hp hten
  have hxr := hx0.rd
  have hd0 : Below u1.heap.size u1 u1.drew := (Below.refl _ _).drew
  have hsd0 := hd0.size
  obtain ⟨f0_a, f0_b⟩ := ((F1).below (Below.refl u1.heap.size u1) (Nat.le_refl _))
  have f0_c := (((Y1).below (Below.refl u1.heap.size u1) (Nat.le_refl _))).get
  obtain ⟨f0_d, f0_e⟩ := ((X0).below (Below.refl u1.heap.size u1) (Nat.le_refl _))
  refine wp_region_K (S := fun w' => w'.cell? ⟨p, 0, none⟩ = some (.int .i64 m) ∧ w'.cell? ⟨p, 1, none⟩ = some (.slice ot t.length ct) ∧ w'.cell? ⟨p + 1, 0, none⟩ = some (.func (.func 18) #[] #[.pointer (some ⟨q + 1, 0, none⟩)]) ∧ w'.cell? ⟨u.heap.size, 0, none⟩ = some (.int .i64 m) ∧ w'.cell? ⟨u.heap.size, 1, none⟩ = some (.slice ov n cv)) [5] (by kernel_rfl) ?_
  have hHeld : (fun w' : World => w'.cell? ⟨p, 0, none⟩ = some (.int .i64 m) ∧ w'.cell? ⟨p, 1, none⟩ = some (.slice ot t.length ct) ∧ w'.cell? ⟨p + 1, 0, none⟩ = some (.func (.func 18) #[] #[.pointer (some ⟨q + 1, 0, none⟩)]) ∧ w'.cell? ⟨u.heap.size, 0, none⟩ = some (.int .i64 m) ∧ w'.cell? ⟨u.heap.size, 1, none⟩ = some (.slice ov n cv)) u1.drew := by go_keep
  refine' wpAnyK_takeL (i := 0) (v := _) rfl (by kernel_rfl) (by kernel_rfl) (by kernel_rfl) (by kernel_rfl) (fun _ _ _ h => h) (Or.inl ⟨by rfl, ?yT1⟩) hHeld ?rT1
  case yT1 => (intro w' hSw; (try dsimp only at hSw); go_simp; try with_reducible rfl)
  try simp only [List.getElem_toArray, List.getElem_cons_zero, List.getElem_cons_succ, Act.put, List.setIfInBounds_toArray, List.set_cons_zero, List.set_cons_succ]
  refine' wpAnyK_takeL (i := 1) (v := _) rfl (by kernel_rfl) (by kernel_rfl) (by kernel_rfl) (by kernel_rfl) (fun _ _ _ h => h) (Or.inl ⟨by rfl, ?yT2⟩) hHeld ?rT2
  case yT2 => (intro w' hSw; (try dsimp only at hSw); go_simp; try with_reducible rfl)
  try simp only [List.getElem_toArray, List.getElem_cons_zero, List.getElem_cons_succ, Act.put, List.setIfInBounds_toArray, List.set_cons_zero, List.set_cons_succ]
  refine' wpAnyK_takeL (i := 2) (v := _) rfl (by kernel_rfl) (by kernel_rfl) (by kernel_rfl) (by kernel_rfl) (fun _ _ _ h => h) (Or.inl ⟨by rfl, ?yT3⟩) hHeld ?rT3
  case yT3 => (intro w' hSw; (try dsimp only at hSw); go_simp; try with_reducible rfl)
  try simp only [List.getElem_toArray, List.getElem_cons_zero, List.getElem_cons_succ, Act.put, List.setIfInBounds_toArray, List.set_cons_zero, List.set_cons_succ]
  refine wpAnyK_oneL (i := 3) rfl (by kernel_rfl) (fun K hK => ?_)
  go_simp
  go_at_call 36
  refine (inCoordinate_c m n _ _ t xs _ ((hRt).below (by (repeat (first | exact bR _ _ | (refine bS ?_ _) | (refine bA ?_ _) | (refine bN ?_ _) | (refine bD ?_)))) (Nat.le_refl _)) ((hxr).below (by (repeat (first | exact bR _ _ | (refine bS ?_ _) | (refine bA ?_ _) | (refine bN ?_ _) | (refine bD ?_)))) (Nat.le_refl _)) hl h2n (by omega) hm hm' HT.out HX.out).mono ?_
  rintro e wd1 ⟨va, rfl, hod1, hbd1⟩
  obtain ⟨oa, ca, rfl⟩ := hod1.shapeN (n := n) (cooT_len _ _ _ _)
  have hd1 : Below u1.heap.size u1 wd1 := (by (repeat (first | exact bR _ _ | (refine bS ?_ _) | (refine bA ?_ _) | (refine bN ?_ _) | (refine bD ?_) | (refine bT ?_ hbd1))))
  have hsd1 := hd1.size
  have hsz1_ := hbd1.size
  (try simp at hsz1_)
  obtain ⟨f1_a, f1_b⟩ := ((F1).below hd1 (Nat.le_refl _))
  have f1_c := (((Y1).below hd1 (Nat.le_refl _))).get
  obtain ⟨f1_d, f1_e⟩ := ((X0).below hd1 (Nat.le_refl _))
  go_wp2_with fail
  clear hHeld
  have hHeld : (fun w' : World => w'.cell? ⟨p, 0, none⟩ = some (.int .i64 m) ∧ w'.cell? ⟨p, 1, none⟩ = some (.slice ot t.length ct) ∧ w'.cell? ⟨p + 1, 0, none⟩ = some (.func (.func 18) #[] #[.pointer (some ⟨q + 1, 0, none⟩)]) ∧ w'.cell? ⟨u.heap.size, 0, none⟩ = some (.int .i64 m) ∧ w'.cell? ⟨u.heap.size, 1, none⟩ = some (.slice ov n cv)) wd1 := by go_keep
  refine hK.out _ _ (fun _ => hHeld) ?_
  clear hK K
  try simp only [List.getElem_toArray, List.getElem_cons_zero, List.getElem_cons_succ, Act.put, List.setIfInBounds_toArray, List.set_cons_zero, List.set_cons_succ]
  refine wpAnyK_oneL (i := 4) rfl (by kernel_rfl) (fun K hK => ?_)
  go_simp
  go_at_call 35
  refine (textOf_c m _ n (cooT m n t xs) _ ((hod1.below (by (repeat (first | exact bR _ _ | (refine bS ?_ _) | (refine bA ?_ _) | (refine bN ?_ _) | (refine bD ?_)))))).rd HPB.out HP.out (hT1.below hd1)).mono ?_
  rintro e wd2 ⟨rfl, hbd2⟩
  have hd2 : Below u1.heap.size u1 wd2 := (by (repeat (first | exact bR _ _ | (refine bS ?_ _) | (refine bA ?_ _) | (refine bN ?_ _) | (refine bD ?_) | (refine bT ?_ hbd1) | (refine bT ?_ hbd2))))
  have hsd2 := hd2.size
  have hsz2_ := hbd2.size
  (try simp at hsz2_)
  obtain ⟨f2_a, f2_b⟩ := ((F1).below hd2 (Nat.le_refl _))
  have f2_c := (((Y1).below hd2 (Nat.le_refl _))).get
  obtain ⟨f2_d, f2_e⟩ := ((X0).below hd2 (Nat.le_refl _))
  go_wp2_with fail
  clear hHeld
  have hHeld : (fun w' : World => w'.cell? ⟨p, 0, none⟩ = some (.int .i64 m) ∧ w'.cell? ⟨p, 1, none⟩ = some (.slice ot t.length ct) ∧ w'.cell? ⟨p + 1, 0, none⟩ = some (.func (.func 18) #[] #[.pointer (some ⟨q + 1, 0, none⟩)]) ∧ w'.cell? ⟨u.heap.size, 0, none⟩ = some (.int .i64 m) ∧ w'.cell? ⟨u.heap.size, 1, none⟩ = some (.slice ov n cv)) wd2 := by go_keep
  refine hK.out _ _ (fun _ => hHeld) ?_
  clear hK K
  try simp only [List.getElem_toArray, List.getElem_cons_zero, List.getElem_cons_succ, Act.put, List.setIfInBounds_toArray, List.set_cons_zero, List.set_cons_succ]
  refine wpAnyK_oneL (i := 5) rfl (by kernel_rfl) (fun K hK => ?_)
  go_simp
  have hi2 := hi0.stay hq hp hg (fun k hk _ => hd2.block k hk)
  refine (cz1_c (texB m (cooT m n t xs)) l (q + 1) q _ hi2.O.get hi2.N hl2 HSz.out).mono ?_
  rintro e w5 ⟨rfl, hN5, hg5⟩
  go_wp2_with fail
  refine hK.out _ _ (fun h => absurd h (by decide)) ?_
  clear hK K
  try simp only [List.getElem_toArray, List.getElem_cons_zero, List.getElem_cons_succ, Act.put, List.setIfInBounds_toArray, List.set_cons_zero, List.set_cons_succ]
  refine wpAnyK_done (by kernel_rfl) ?_ _
  go_wp2_with fail
  go_ret
  have hU2 : Below u.heap.size u wd2 := hA.trans (hd2.mono hAs)
  obtain ⟨rfl, rfl⟩ : r1 = l ++ [texB m (cooT m n t xs)] ∧ r2 = true := by have := HSt.out; simpa using this
  have hk : ∀ k, k < wd2.heap.size → k ≠ q → w5.heap[k]? = wd2.heap[k]? := fun k k1 k2 => hg5.block k k1 (fun e => by cases e; exact k2 rfl)
  have l2 := hi2.F.lt
  have lY := hi2.Y.lt
  have lO := hi2.O.lt
  refine ⟨rfl, o, ⟨fun k k1 => (hk k (by omega) (by omega)).trans (hi2.bel k k1), hi2.F.blk (hk _ l2 (by omega)), hi2.Y.blk (hk _ lY (by omega)), hi2.O.blk (hk _ lO (by omega)), hN5, hi2.no⟩, .inl rfl, ?_⟩
  exact (Ch.of_below hU2).trans (.inl rfl) (Ch.of_grown hg5 (by simp))
theorem orbz1_callable : Callable 34 := fun args w => Tryz.call34 args w

theorem orbWalkZ (m : Int) (n p q g cz : Nat) (w u : World) (tv : Value) (t : List (List Int)) (hq : w.heap.size ≤ q) (hp : q + 2 ≤ p) (hg : p + 2 ≤ g) (hgu : g < u.heap.size) (hm : 2 ≤ m) (hm' : m ≤ 10000) (h2n : 2 ≤ n) (hn : n ≤ 11) (ht : PlaT m n t) (hv : RdT w tv t) (hten : TenT w) (hM : m.toNat ^ (n - 2) ≤ 300)
    (hi : InvZ m p q w tv [] none u) (hr : OwI u g (.slice (some ⟨g, 0, none⟩) n cz) (varL n)) :
    Calls Tryz.prog 58 #[.agg #[.int .i64 m, .slice (some ⟨g, 0, none⟩) n cz], .int .i64 2, .func (.func 34) #[] #[.pointer (some ⟨p + 1, 0, none⟩), .pointer (some ⟨p, 0, none⟩)]] u fun e w' =>
      (∃ bb, e = .returned (.bool bb)) ∧ InvZ m p q w tv ((List.range (m.toNat ^ (n - 2))).map (fun j => texB m (conT m n t j))) none w' ∧ Ch [g, q] none u w' := by
  have hR := runZ (n := n) (t := t) hm
  have h1 := varL_2 h2n
  have hC := curves_c (S := List ByteArray) m n 34 #[.pointer (some ⟨p + 1, 0, none⟩), .pointer (some ⟨p, 0, none⟩)] (stZ m n t) (InvZ m p q w tv) [q] (g + 1) g cz [0, 1] List.length 301
    (fun xs l => by unfold stZ; simp) hm hm' (by omega) orbz1_callable (by omega) (fun x hx => by simp at hx; omega) (by simp; omega)
    (fun l o x x' hi hs hk => hi.stay hq hp hg hk) (fun l o x hi j hj => by rw [hi.no] at hj; cases hj)
    (fun xs l o x0 x v _ hi hb0 hB ho hx hl hr _ hM => orbz1_c m n p q g w tv t hq hp hg hm hm' h2n hn ht hv hten xs l o x0 x v hi hb0 (by omega) hx hl hr (by omega))
    (n - 2) 2 (varL n) [] none u (by omega) (varL_len n) (varL_range hm n) hr hi (by omega) (by simp) h1 (by simp; omega)
  rw [h1, hR] at hC
  refine hC.mono ?_
  rintro e w' ⟨rfl, o', hi', ho', hc', -⟩
  have e0 : o' = none := hi'.no
  subst e0
  exact ⟨⟨_, rfl⟩, hi', hc'⟩
end Go.Proofs.YteijannfbafdpaaGreatDoor
