/- Lemmas of Int. -/
import Derived.Test.YtcjinlfgeljmkaaWSFromI
set_option linter.unusedSimpArgs false
set_option linter.unusedVariables false
namespace Go.Proofs.Ytcjinlfgeljmkaa
open Go.RowKit

theorem int_FL {p : Nat} (hp : P4 p) {m : Int} (hm : 0 < m) {e n : Nat} (hn : n ≤ e + 1) (c : Int) :
    (fromL (m * (p : Int) ^ e) p (List.replicate n (c % (m * (p : Int) ^ e)))).map (· % m) = FL p m n (fun _ => c) := by
  have h := wide_eq hp hm (e := e) (fun _ => c) (List.replicate n (c % (m * (p : Int) ^ e))) (by simpa using hn) (by
    have := op_ex hp (Gs.const p c) n (fun _ => 0)
    simpa using this) (fun k hk => by simp)
  simpa using h

theorem FL_range {p : Nat} {m : Int} (hm : 0 < m) {n : Nat} {G : Nat → Int} : ∀ x ∈ FL p m n G, 0 ≤ x ∧ x < m := by
  intro x hx
  simp only [FL, List.mem_map] at hx
  obtain ⟨y, _, rfl⟩ := hx
  exact mod_lt' hm

theorem wide_bounds {p : Nat} (hp : P4 p) {m : Int} (hm : 2 ≤ m) (hm' : m ≤ 10000) {e : Nat} (he : e ≤ 4) : 2 ≤ m * (p : Int) ^ e ∧ m * (p : Int) ^ e ≤ 30000000 := by
  have hpp := hp.pow3 he
  have hb1 : m * (p : Int) ^ e ≤ 10000 * 2401 := Int.mul_le_mul hm' hpp.2 (by omega) (by omega)
  have hb2 : 2 * 1 ≤ m * (p : Int) ^ e := Int.mul_le_mul hm hpp.1 (by omega) (by omega)
  omega

set_option maxHeartbeats 2000000 in
set_option maxRecDepth 100000 in
theorem l13Integer_c (p : Nat) (m c : Int) (n : Nat) (w : World) (hp : P4 p) (hm : 2 ≤ m) (hm' : m ≤ 10000) (h1 : 1 ≤ n) (h4 : n ≤ 4) (hc : -1000000000000 ≤ c) (hc' : c ≤ 1000000000000) :
    Calls Try.prog 183 #[.int .i64 p, .int .i64 m, .int .i64 n, .int .i64 c] w fun e w' => ∃ v', e = .returned v' ∧ OwI w' w.heap.size v' (FL p m n (fun _ => c)) ∧ Below w.heap.size w w' := by
  have hpb := hp.bounds
  have hpp := hp.pow3 (show n - 1 ≤ 4 by omega)
  have hW := wide_bounds hp hm hm' (show n - 1 ≤ 4 by omega)
  have hFL := int_FL hp (show 0 < m by omega) (show n ≤ (n - 1) + 1 by omega) c
  have HFL := Lib.hid hFL
  clear hFL
  obtain ⟨W, hWe⟩ : ∃ W, m * (p : Int) ^ (n - 1) = W := ⟨_, rfl⟩
  have HW := Lib.hid hWe
  have hW0 : 2 ≤ W := by omega
  have hW1 : W ≤ 30000000 := by omega
  clear hWe
  go_enter Try.func183, Try.ntmps183
  go_wp2_with (go_at_call 195; refine (l13Raise_c _ _ (n - 1) _ (by omega) (by omega) (by omega) (by omega)).mono ?_; rintro e w' ⟨rfl, rfl⟩)
  rw [HW.out] at hW ⊢
  have O1 := OwI.lit w [] (by decide)
  have B1 : Below w.heap.size w (w.alloc (.cells #[] 2)) := (by (repeat (first | exact Below.refl _ _ | (refine Below.setCell ?_ (by first | (simp; done) | (simp; omega) | omega) _) | (refine Below.alloc ?_ (by first | (simp; done) | (simp; omega) | omega) _) | (refine below_drewN ?_ _) | (refine Below.drew ?_))))
  simp at O1
  generalize w.alloc (.cells #[] 2) = w1 at O1 B1 ⊢
  go_loopw [10, 11] (fun s k wr => ∃ j : Nat, j ≤ n ∧ k = .int .i64 j ∧ OwI wr w.heap.size s (List.replicate j (c % W)) ∧ Below w.heap.size w wr) (fun _ k _ => n - (intOf k).toNat)
  case atStart => exact ⟨0, Nat.zero_le _, rfl, by simpa using O1, B1⟩
  case round =>
    obtain ⟨j, hj, rfl, hO, hB⟩ := hrel
    obtain ⟨ov, cv, rfl⟩ := hO.shapeN (n := j) (by simp)
    have hBs := hB.size
    by_cases hlt : j < n
    · have h3 : -W < c.tmod W := Int.lt_tmod_of_pos _ (by omega)
      have h4 : c.tmod W < W := Int.tmod_lt_of_pos _ (by omega)
      have HT := Lib.hid (show c.tmod W % W = c % W by rw [← Int.add_emod_right, tmod_mod])
      go_wp2_with (at_builtin; refine apI wr rfl _ _ rfl w.heap.size (.slice ov j cv) _ rfl hO _ rfl (by simp; omega) (by omega) ?_; intro v' w4 hO3 hgr hb3 hlt3; clear hgr)
      rw [HT.out, ← List.replicate_succ'] at hO3
      exact ⟨⟨j + 1, by omega, by go_num, hO3, hB.trans hb3⟩, by simp [intOf]; omega⟩
    · obtain rfl : j = n := by omega
      have hcm := mod_lt' (a := c) (show 0 < W by omega)
      go_wp2_with fail
      refine (l13From_c p m W _ (List.replicate j (c % W)) _ hp hO.rd (by simpa using h1) (by simpa using h4) hm hm' (by rw [List.length_replicate]; exact HW.out) (fun g hg => by rw [List.eq_of_mem_replicate hg]; exact hcm)).mono ?_
      rintro e w5 ⟨v5, rfl, hO5, hb5⟩
      have h5 := HFL.out
      rw [HW.out] at h5
      rw [h5] at hO5
      have H5 := Lib.hid hO5
      clear hO5 h5
      have hB5 := hB.trans (hb5.mono hB.size)
      go_wp2
      go_ret
      exact ⟨_, rfl, H5.out.mono hBs, hB5⟩

def integerR (p m n c : Int) : WR := if shapeB p m n && inB c (-1000000) 1000000 then ⟨p, m, FL p.toNat m n.toNat (fun _ => c), 0⟩ else WR.bad 2

set_option maxHeartbeats 1000000 in
set_option maxRecDepth 100000 in
theorem sIntegerWitt_c (p m n c : Int) (w : World) :
    Calls Try.prog 94 #[.int .i64 p, .int .i64 m, .int .i64 n, .int .i64 c] w fun e w' => WEnd w w' (integerR p m n c) e := by
  cases hs : shapeB p m n
  · have hR : integerR p m n c = WR.bad 2 := by simp [integerR, hs]
    rw [hR]
    go_enter Try.func94, Try.ntmps94
    go_wp2_with (go_at_call 190; refine (l13Kind_c _ _ _ _).mono ?_; rw [hs]; rintro e w' ⟨rfl, rfl⟩)
    exact bodyPost_ret (v := .tuple #[.agg #[.int .i64 0, .int .i64 0, .slice none 0 0], .int .i64 2]) (by simp [results, Try.results94, go_sem]) rfl ⟨_, rfl, OwI.nil _ _, (by (repeat (first | exact Below.refl _ _ | (refine Below.setCell ?_ (by first | (simp; done) | (simp; omega) | omega) _) | (refine Below.alloc ?_ (by first | (simp; done) | (simp; omega) | omega) _) | (refine below_drewN ?_ _) | (refine Below.drew ?_)))), by simp [WR.bad]⟩
  · cases hq : inB c (-1000000) 1000000
    · have hR : integerR p m n c = WR.bad 2 := by simp [integerR, hq]
      rw [hR]
      go_enter Try.func94, Try.ntmps94
      go_wp2_with (first | (go_at_call 190; refine (l13Kind_c _ _ _ _).mono ?_; rw [hs]; rintro e w' ⟨rfl, rfl⟩) | (go_at_call 141; refine (l01In_c _ _ _ _).mono ?_; rw [hq]; rintro e w' ⟨rfl, rfl⟩))
      exact bodyPost_ret (v := .tuple #[.agg #[.int .i64 0, .int .i64 0, .slice none 0 0], .int .i64 2]) (by simp [results, Try.results94, go_sem]) rfl ⟨_, rfl, OwI.nil _ _, (by (repeat (first | exact Below.refl _ _ | (refine Below.setCell ?_ (by first | (simp; done) | (simp; omega) | omega) _) | (refine Below.alloc ?_ (by first | (simp; done) | (simp; omega) | omega) _) | (refine below_drewN ?_ _) | (refine Below.drew ?_)))), by simp [WR.bad]⟩
    · obtain ⟨q, rfl, hp⟩ := prime_nat (shape_p hs)
      have hm := shape_m hs
      have hn := shape_n hs
      have hcb := inB_t hq
      obtain ⟨n, rfl⟩ := Int.eq_ofNat_of_zero_le (show 0 ≤ n by omega)
      have hR : integerR q m n c = ⟨q, m, FL q m n (fun _ => c), 0⟩ := by simp [integerR, hq, hs]
      rw [hR]
      go_enter Try.func94, Try.ntmps94
      go_wp2_with (first | (go_at_call 190; refine (l13Kind_c _ _ _ _).mono ?_; rw [hs]; rintro e w' ⟨rfl, rfl⟩) | (go_at_call 141; refine (l01In_c _ _ _ _).mono ?_; rw [hq]; rintro e w' ⟨rfl, rfl⟩))
      have R0 := RB3.mk1 w (.int .i64 0) (.int .i64 0) (.slice none 0 0) 59
      have B0 : Below w.heap.size w (w.alloc (.cells #[.int .i64 0, .int .i64 0, .slice none 0 0] 59)) := (by (repeat (first | exact Below.refl _ _ | (refine Below.setCell ?_ (by first | (simp; done) | (simp; omega) | omega) _) | (refine Below.alloc ?_ (by first | (simp; done) | (simp; omega) | omega) _) | (refine below_drewN ?_ _) | (refine Below.drew ?_))))
      generalize w.alloc (.cells #[.int .i64 0, .int .i64 0, .slice none 0 0] 59) = w0 at R0 B0 ⊢
      refine (l13Integer_c q m c n _ hp hm.1 hm.2 (by omega) (by omega) (by omega) (by omega)).mono ?_
      rintro e w1 ⟨v1, rfl, how, hb⟩
      obtain ⟨o1, c1, rfl⟩ := how.shapeN (n := n) (FL_len _ _ _ _)
      (have R1 := R0.below hb (Nat.le_refl _); have B1 := B0.trans (hb.mono B0.size))
      have hz := R1.1.lt
      have hz0 := R0.1.lt
      obtain ⟨⟨r0, r1, r2⟩, rf⟩ := id R1
      go_wp2
      refine bodyPost_ret (v := .tuple #[.agg #[.int .i64 q, .int .i64 m, .slice o1 n c1], .int .i64 0]) (by simp [results, Try.results94, go_sem, r0, r1, r2]) rfl ⟨_, rfl, ?_, ?_, by rw [FL_len]; omega⟩
      · exact (((how.low hz0 _).low hz0 _).low hz0 _).mono (by omega)
      · (repeat (first | exact Below.refl _ _ | (refine Below.setCell ?_ (by first | (simp; done) | (simp; omega) | omega) _) | (refine Below.alloc ?_ (by first | (simp; done) | (simp; omega) | omega) _) | (refine below_drewN ?_ _) | (refine Below.drew ?_) | (refine Below.trans ?_ (Below.mono B1 (by first | (simp; done) | (simp; omega) | omega)))))

set_option maxHeartbeats 2000000 in
set_option maxRecDepth 100000 in
theorem IntegerWitt_c (p m n c : Int) (w : World) :
    Calls Try.prog 93 #[.int .i64 p, .int .i64 m, .int .i64 n, .int .i64 c] w fun e w' => WEnd w w' (integerR p m n c) e := by
  cases hs : shapeB p m n
  · have hR : integerR p m n c = WR.bad 2 := by simp [integerR, hs]
    rw [hR]
    go_enter Try.func93, Try.ntmps93
    go_wp2_with (go_at_call 176; refine (isShape_c _ _ _ _).mono ?_; rw [hs]; rintro e w' ⟨rfl, rfl⟩)
    exact bodyPost_ret (v := .tuple #[.agg #[.int .i64 0, .int .i64 0, .slice none 0 0], .int .i64 2]) (by simp [results, Try.results93, go_sem]) rfl ⟨_, rfl, OwI.nil _ _, (by (repeat (first | exact Below.refl _ _ | (refine Below.setCell ?_ (by first | (simp; done) | (simp; omega) | omega) _) | (refine Below.alloc ?_ (by first | (simp; done) | (simp; omega) | omega) _) | (refine below_drewN ?_ _) | (refine Below.drew ?_)))), by simp [WR.bad]⟩
  · cases hq : inB c (-1000000) 1000000
    · have hR : integerR p m n c = WR.bad 2 := by simp [integerR, hq]
      rw [hR]
      go_enter Try.func93, Try.ntmps93
      go_wp2_with (first | (go_at_call 176; refine (isShape_c _ _ _ _).mono ?_; rw [hs]; rintro e w' ⟨rfl, rfl⟩) | (go_at_call 107; refine (in_c _ _ _ _).mono ?_; rw [hq]; rintro e w' ⟨rfl, rfl⟩))
      exact bodyPost_ret (v := .tuple #[.agg #[.int .i64 0, .int .i64 0, .slice none 0 0], .int .i64 2]) (by simp [results, Try.results93, go_sem]) rfl ⟨_, rfl, OwI.nil _ _, (by (repeat (first | exact Below.refl _ _ | (refine Below.setCell ?_ (by first | (simp; done) | (simp; omega) | omega) _) | (refine Below.alloc ?_ (by first | (simp; done) | (simp; omega) | omega) _) | (refine below_drewN ?_ _) | (refine Below.drew ?_)))), by simp [WR.bad]⟩
    · obtain ⟨q, rfl, hp⟩ := prime_nat (shape_p hs)
      have hm := shape_m hs
      have hn := shape_n hs
      have hcb := inB_t hq
      obtain ⟨n, rfl⟩ := Int.eq_ofNat_of_zero_le (show 0 ≤ n by omega)
      have hR : integerR q m n c = ⟨q, m, FL q m n (fun _ => c), 0⟩ := by simp [integerR, hq, hs]
      rw [hR]
      have hW := wide_bounds hp hm.1 hm.2 (Nat.le_refl 4)
      have HFL := Lib.hid (int_FL hp (show 0 < m by omega) (show n ≤ 4 + 1 by omega) c)
      obtain ⟨W, hWe⟩ : ∃ W, m * (q : Int) ^ 4 = W := ⟨_, rfl⟩
      rw [hWe] at hW HFL
      have HW := Lib.hid hWe
      clear hWe
      go_enter Try.func93, Try.ntmps93
      go_wp2_with (first | (go_at_call 176; refine (isShape_c _ _ _ _).mono ?_; rw [hs]; rintro e w' ⟨rfl, rfl⟩) | (go_at_call 107; refine (in_c _ _ _ _).mono ?_; rw [hq]; rintro e w' ⟨rfl, rfl⟩))
      have hexp : ∃ W1, ((w.alloc (.cells #[.int .i64 0, .int .i64 0, .slice none 0 0] 59)).alloc (.cells #[.int .i64 q, .int .i64 m, .slice none 0 0] 59)).alloc (.cells #[] 2) = W1 := ⟨_, rfl⟩
      obtain ⟨w1, hw1⟩ := hexp
      have X1 : Box3 w1 (w.heap.size + 1) (.int .i64 q) (.int .i64 m) (.slice none 0 0) := by
        rw [← hw1]
        exact (RB3.mk2 w _ (.int .i64 q) (.int .i64 m) (.slice none 0 0) 59).1.below ((by (repeat (first | exact Below.refl _ _ | (refine Below.setCell ?_ (by first | (simp; done) | (simp; omega) | omega) _) | (refine Below.alloc ?_ (by first | (simp; done) | (simp; omega) | omega) _) | (refine below_drewN ?_ _) | (refine Below.drew ?_))))) (Nat.le_refl _)
      have R1 : RB3 w1 w.heap.size (.int .i64 0) (.int .i64 0) (.slice none 0 0) := by
        rw [← hw1]
        exact (RB3.mk1 w (.int .i64 0) (.int .i64 0) (.slice none 0 0) 59).below ((by (repeat (first | exact Below.refl _ _ | (refine Below.setCell ?_ (by first | (simp; done) | (simp; omega) | omega) _) | (refine Below.alloc ?_ (by first | (simp; done) | (simp; omega) | omega) _) | (refine below_drewN ?_ _) | (refine Below.drew ?_))))) (Nat.le_refl _)
      have B1 : Below w.heap.size w w1 := by
        rw [← hw1]
        (repeat (first | exact Below.refl _ _ | (refine Below.setCell ?_ (by first | (simp; done) | (simp; omega) | omega) _) | (refine Below.alloc ?_ (by first | (simp; done) | (simp; omega) | omega) _) | (refine below_drewN ?_ _) | (refine Below.drew ?_)))
      have O1 : OwI w1 (w.heap.size + 2) (.slice (some ⟨w.heap.size + 1 + 1, 0, none⟩) 0 0) [] := by
        rw [← hw1]
        have := OwI.lit ((w.alloc (.cells #[.int .i64 0, .int .i64 0, .slice none 0 0] 59)).alloc (.cells #[.int .i64 q, .int .i64 m, .slice none 0 0] 59)) [] (by decide)
        simpa using this
      rw [hw1]
      clear hw1
      go_loopw [11, 28] (fun s k wr => ∃ j : Nat, j ≤ n ∧ k = .int .i64 j ∧ OwI wr (w.heap.size + 2) s (List.replicate j (c % W)) ∧ Box3 wr (w.heap.size + 1) (.int .i64 q) (.int .i64 m) (.slice none 0 0) ∧ RB3 wr w.heap.size (.int .i64 0) (.int .i64 0) (.slice none 0 0) ∧ Below w.heap.size w wr) (fun _ k _ => n - (intOf k).toNat)
      case atStart => exact ⟨0, Nat.zero_le _, rfl, O1, X1, R1, B1⟩
      case round =>
        obtain ⟨j, hj, rfl, hO, hX, hR', hB⟩ := hrel
        obtain ⟨ov, cv, rfl⟩ := hO.shapeN (n := j) (by simp)
        obtain ⟨k0, k1, k2⟩ := id hX
        have hz := hX.lt
        by_cases hlt : j < n
        · go_wp2_with fail
          refine (wide_c q m none 0 0 _ hp hm.1 hm.2).mono ?_
          rw [HW.out]
          rintro e w2 ⟨rfl, hb⟩
          have hX2 := hX.below hb (Nat.le_refl _)
          have hR2 := hR'.below hb (Nat.le_refl _)
          have hO2 := hO.below hb
          have hB2 := hB.trans (hb.mono hB.size)
          have hz2 := hX2.lt
          go_wp2_with (first | (go_at_call 199; refine (mod_c _ _ _ (by omega) (by omega) (by omega) (by omega)).mono ?_; rintro e w' ⟨rfl, rfl⟩) | (at_builtin; refine apI w2 rfl _ _ rfl (w.heap.size + 2) (.slice ov j cv) _ rfl hO2 _ rfl (by simp; omega) (by omega) ?_; intro v' w4 hO3 hgr hb3 hlt3; clear hgr))
          rw [← List.replicate_succ'] at hO3
          exact ⟨⟨j + 1, by omega, by go_num, hO3, hX2.belowB hb3 (by omega), hR2.belowB hb3 (by omega), hB2.trans (hb3.mono (by omega))⟩, by simp [intOf]; omega⟩
        · obtain rfl : j = n := by omega
          have hcm := mod_lt' (a := c) (show 0 < W by omega)
          go_wp2_with fail
          refine (withGhosts_c q m W _ (List.replicate j (c % W)) none 0 0 _ hp hO.rd (by simp; omega) hm.1 hm.2 HW.out (fun g hg => by rw [List.eq_of_mem_replicate hg]; exact hcm)).mono ?_
          rw [HFL.out]
          rintro e w5 ⟨v5, rfl, hO5, hb5⟩
          obtain ⟨o5, c5, rfl⟩ := hO5.shapeN (n := j) (FL_len _ _ _ _)
          have R5 := hR'.below hb5 (Nat.le_refl _)
          have hB5 := hB.trans (hb5.mono hB.size)
          have hz5 := R5.1.lt
          have hzr := hR'.1.lt
          obtain ⟨⟨r0, r1, r2⟩, rf⟩ := id R5
          go_wp2
          refine bodyPost_ret (v := .tuple #[.agg #[.int .i64 q, .int .i64 m, .slice o5 j c5], .int .i64 0]) (by simp [results, Try.results93, go_sem, r0, r1, r2]) rfl ⟨_, rfl, ?_, ?_, by rw [FL_len]; omega⟩
          · exact (((hO5.low hzr _).low hzr _).low hzr _).mono (by omega)
          · (repeat (first | exact Below.refl _ _ | (refine Below.setCell ?_ (by first | (simp; done) | (simp; omega) | omega) _) | (refine Below.alloc ?_ (by first | (simp; done) | (simp; omega) | omega) _) | (refine below_drewN ?_ _) | (refine Below.drew ?_) | (refine Below.trans ?_ (Below.mono hB5 (by first | (simp; done) | (simp; omega) | omega)))))

end Go.Proofs.Ytcjinlfgeljmkaa
