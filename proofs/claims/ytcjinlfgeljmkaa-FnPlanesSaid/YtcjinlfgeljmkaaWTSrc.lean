/- Lemmas of Src. -/
import Derived.Test.YtcjinlfgeljmkaaWTG2
set_option linter.unusedSimpArgs false
set_option linter.unusedVariables false
namespace Go.Proofs.Ytcjinlfgeljmkaa
open Go.RowKit

def RdB (w : World) (B n : Nat) (v : Value) : Prop :=
  ∃ o c, v = .slice o n c ∧ (n ≤ maxLen ∧ n ≤ c ∧ (o = none → c = 0)) ∧ ∀ k, k < n → ∃ b off x, b < B ∧ o = some ⟨b, off, none⟩ ∧ w.cell? ⟨b, off + k, none⟩ = some (.int .u8 x) ∧ 0 ≤ x ∧ x < 256
theorem RdB.keep {w w' : World} {B n : Nat} {v : Value} (h : RdB w B n v) (hk : ∀ k, k < B → w'.heap[k]? = w.heap[k]?) : RdB w' B n v := by
  obtain ⟨o, c, e, hm, hc⟩ := h
  refine ⟨o, c, e, hm, fun k hkn => ?_⟩
  obtain ⟨b, off, x, hb, ho, hcell, hx⟩ := hc k hkn
  exact ⟨b, off, x, hb, ho, (World.cell?_of_block (w := w) (a := ⟨b, off + k, none⟩) (hk b hb)).trans hcell, hx⟩
theorem RdB.mono {w : World} {B B' n : Nat} {v : Value} (h : RdB w B n v) (hB : B ≤ B') : RdB w B' n v := by
  obtain ⟨o, c, e, hm, hc⟩ := h
  refine ⟨o, c, e, hm, fun k hkn => ?_⟩
  obtain ⟨b, off, x, hb, r⟩ := hc k hkn
  exact ⟨b, off, x, by omega, r⟩
def Src (w : World) (B n b : Nat) : Prop := B ≤ b ∧ ∃ (v : Value) (i : Nat) (h : Int), RdB w B n v ∧ RB3 w b v (.int .i64 i) (.int .u64 h) ∧ i ≤ n
theorem Src.lt {w : World} {B n b : Nat} (h : Src w B n b) : b < w.heap.size := by
  obtain ⟨_, v, i, h, _, hr, _⟩ := h
  exact hr.1.lt
theorem RB3.set1 {w : World} {b : Nat} {x y z : Value} (h : RB3 w b x y z) (u : Value) : RB3 (w.setCell ⟨b, 1, none⟩ u) b x u z := by
  obtain ⟨⟨h0, h1, h2⟩, hf⟩ := h
  exact ⟨⟨(World.cell?_setCell_other w ⟨b, 1, none⟩ ⟨b, 0, none⟩ u (by simp)).trans h0, World.cell?_setCell_same _ _ _ h1, (World.cell?_setCell_other w ⟨b, 1, none⟩ ⟨b, 2, none⟩ u (by simp)).trans h2⟩, fun k => by rw [World.frozen?_setCell]; exact hf k⟩
theorem RB3.set2 {w : World} {b : Nat} {x y z : Value} (h : RB3 w b x y z) (u : Value) : RB3 (w.setCell ⟨b, 2, none⟩ u) b x y u := by
  obtain ⟨⟨h0, h1, h2⟩, hf⟩ := h
  exact ⟨⟨(World.cell?_setCell_other w ⟨b, 2, none⟩ ⟨b, 0, none⟩ u (by simp)).trans h0, (World.cell?_setCell_other w ⟨b, 2, none⟩ ⟨b, 1, none⟩ u (by simp)).trans h1, World.cell?_setCell_same _ _ _ h2⟩, fun k => by rw [World.frozen?_setCell]; exact hf k⟩
theorem RB3.drewN {w : World} {b : Nat} {x y z : Value} (h : RB3 w b x y z) (n : Nat) : RB3 (w.drewN n) b x y z := h
theorem and24 (E : Int) (h0 : 0 ≤ E) (h1 : E ≤ 18446744073709551615) : ∃ r : Int, bits BinOp.and IntKind.u64 E 16777215 = r ∧ 0 ≤ r ∧ r ≤ 16777215 := by
  have h := bits_and_u64_nat E.toNat 16777215 (by omega) (by omega)
  rw [Int.toNat_of_nonneg h0] at h
  exact ⟨_, h, by omega, by have := Nat.and_le_right (n := E.toNat) (m := 16777215); omega⟩

set_option maxHeartbeats 400000 in
set_option maxRecDepth 100000 in
theorem l01Next_c (B n b : Nat) (m : Int) (w : World) (hs : Src w B n b) :
    Calls Try.prog 116 #[.pointer (some ⟨b, 0, none⟩), .int .i64 m] w fun e w' => ∃ r, e = .returned (.int .i64 r) ∧ 0 ≤ r ∧ (0 < m → r < m) ∧ (m < 1 → r = 0) ∧ Src w' B n b ∧ Chg b (b + 1) w w' ∧ w'.heap.size = w.heap.size := by
  obtain ⟨hB, v, i, h, hv, hr, hi⟩ := hs
  obtain ⟨⟨c0, c1, c2⟩, cf⟩ := id hr
  by_cases hm : m < 1
  · go_enter Try.func116, Try.ntmps116
    go_wp2
    go_ret
    exact ⟨0, rfl, Int.le_refl _, fun h => by omega, fun _ => rfl, ⟨hB, v, i, h, hv, hr, hi⟩, Chg.refl _ _ _, rfl⟩
  · go_enter Try.func116, Try.ntmps116
    go_wp2_with fail
    generalize hH : IntKind.u64.wrap (IntKind.u64.wrap (h * 6364136223846793005) + 1442695040888963407) = H
    have H0 : 0 ≤ H ∧ H ≤ 18446744073709551615 := by rw [← hH, IntKind.wrap_u64]; omega
    clear hH
    obtain ⟨q, hq, q0, q1⟩ := and24 (H / 8589934592) (by omega) (by omega)
    rw [hq, IntWalk.wrap64_in q (by omega)]
    clear hq
    have hr1 := hr.set2 (.int .u64 H)
    have hv1 : RdB (w.setCell ⟨b, 2, none⟩ (.int .u64 H)) B n v := hv.keep fun k hk => (grown_put w b 2 _).block k (by have := hr.1.lt; omega) (fun e => by cases e; omega)
    have hC1 : Chg b (b + 1) w (w.setCell ⟨b, 2, none⟩ (.int .u64 H)) := Chg.of_grown (grown_put w b 2 _) (fun k hk => by cases hk; omega)
    have hz1 : (w.setCell ⟨b, 2, none⟩ (.int .u64 H)).heap.size = w.heap.size := by simp
    clear c0 c1 c2 cf hr
    generalize w.setCell ⟨b, 2, none⟩ (.int .u64 H) = w1 at hr1 hv1 hC1 hz1 ⊢
    obtain ⟨⟨c0, c1, c2⟩, cf⟩ := id hr1
    obtain ⟨o, c, rfl, hmx, hc⟩ := id hv1
    have hml := hmx.1
    unfold maxLen at hml
    by_cases hlt : i < n
    · obtain ⟨bb, off, x, hbb, rfl, hcell, x0, x1⟩ := hc i hlt
      have hi2 : (i : Int) < (n : Int) := by omega
      go_wp2_with fail
      go_quiet (fail)
      revert nq
      intro n1
      go_wp2_with fail
      go_quiet (fail)
      go_wp2
      go_ret
      have hrl := hr1.1.lt
      refine ⟨(q + x) % m, rfl, Int.emod_nonneg _ (by omega), fun _ => Int.emod_lt_of_pos _ (by omega), fun h => by omega, ⟨hB, _, i + 1, H, hv1.keep fun k hk => ?_, ?_, by omega⟩, ?_, ?_⟩
      · exact (grown_put _ b 1 _).block k (by show k < w1.heap.size; omega) (fun e => by cases e; omega)
      · exact ((hr1.drewN n1).drewN nq).set1 _
      · have hb2 : Chg b (b + 1) w (w1.drewN (n1 + nq)) := hC1.trans (Chg.of_below (below_drewN (Below.refl _ _) _))
        exact hb2.trans (Chg.of_grown (row := some b) (grown_put (w1.drewN (n1 + nq)) b 1 (.int .i64 ((i : Int) + 1))) (fun k hk => by cases hk; omega))
      · simp; exact hz1
    · have hi2 : ¬ (i : Int) < (n : Int) := by omega
      go_wp2_with fail
      go_quiet (fail)
      go_wp2_with fail
      go_ret
      exact ⟨q % m, rfl, Int.emod_nonneg _ (by omega), fun _ => Int.emod_lt_of_pos _ (by omega), fun h => by omega, ⟨hB, _, i, H, hv1.keep fun k hk => rfl, hr1.drewN _, hi⟩, hC1.trans (Chg.of_below (below_drewN (Below.refl _ _) _)), hz1⟩
set_option maxHeartbeats 400000 in
set_option maxRecDepth 100000 in
theorem below_c (B n b : Nat) (m : Int) (w : World) (hs : Src w B n b) :
    Calls Try.prog 70 #[.pointer (some ⟨b, 0, none⟩), .int .i64 m] w fun e w' => ∃ r, e = .returned (.int .i64 r) ∧ 0 ≤ r ∧ (0 < m → r < m) ∧ (m < 1 → r = 0) ∧ Src w' B n b ∧ Chg b (b + 1) w w' ∧ w'.heap.size = w.heap.size := by
  obtain ⟨hB, v, i, h, hv, hr, hi⟩ := hs
  obtain ⟨⟨c0, c1, c2⟩, cf⟩ := id hr
  by_cases hm : m < 1
  · go_enter Try.func70, Try.ntmps70
    go_wp2
    go_ret
    exact ⟨0, rfl, Int.le_refl _, fun h => by omega, fun _ => rfl, ⟨hB, v, i, h, hv, hr, hi⟩, Chg.refl _ _ _, rfl⟩
  · go_enter Try.func70, Try.ntmps70
    go_wp2_with fail
    generalize hH : IntKind.u64.wrap (IntKind.u64.wrap (h * 6364136223846793005) + 1442695040888963407) = H
    have H0 : 0 ≤ H ∧ H ≤ 18446744073709551615 := by rw [← hH, IntKind.wrap_u64]; omega
    clear hH
    obtain ⟨q, hq, q0, q1⟩ := and24 (H / 8589934592) (by omega) (by omega)
    rw [hq, IntWalk.wrap64_in q (by omega)]
    clear hq
    have hr1 := hr.set2 (.int .u64 H)
    have hv1 : RdB (w.setCell ⟨b, 2, none⟩ (.int .u64 H)) B n v := hv.keep fun k hk => (grown_put w b 2 _).block k (by have := hr.1.lt; omega) (fun e => by cases e; omega)
    have hC1 : Chg b (b + 1) w (w.setCell ⟨b, 2, none⟩ (.int .u64 H)) := Chg.of_grown (grown_put w b 2 _) (fun k hk => by cases hk; omega)
    have hz1 : (w.setCell ⟨b, 2, none⟩ (.int .u64 H)).heap.size = w.heap.size := by simp
    clear c0 c1 c2 cf hr
    generalize w.setCell ⟨b, 2, none⟩ (.int .u64 H) = w1 at hr1 hv1 hC1 hz1 ⊢
    obtain ⟨⟨c0, c1, c2⟩, cf⟩ := id hr1
    obtain ⟨o, c, rfl, hmx, hc⟩ := id hv1
    have hml := hmx.1
    unfold maxLen at hml
    by_cases hlt : i < n
    · obtain ⟨bb, off, x, hbb, rfl, hcell, x0, x1⟩ := hc i hlt
      have hi2 : (i : Int) < (n : Int) := by omega
      go_wp2_with fail
      go_quiet (fail)
      revert nq
      intro n1
      go_wp2_with fail
      go_quiet (fail)
      go_wp2
      go_ret
      have hrl := hr1.1.lt
      refine ⟨(q + x) % m, rfl, Int.emod_nonneg _ (by omega), fun _ => Int.emod_lt_of_pos _ (by omega), fun h => by omega, ⟨hB, _, i + 1, H, hv1.keep fun k hk => ?_, ?_, by omega⟩, ?_, ?_⟩
      · exact (grown_put _ b 1 _).block k (by show k < w1.heap.size; omega) (fun e => by cases e; omega)
      · exact ((hr1.drewN n1).drewN nq).set1 _
      · have hb2 : Chg b (b + 1) w (w1.drewN (n1 + nq)) := hC1.trans (Chg.of_below (below_drewN (Below.refl _ _) _))
        exact hb2.trans (Chg.of_grown (row := some b) (grown_put (w1.drewN (n1 + nq)) b 1 (.int .i64 ((i : Int) + 1))) (fun k hk => by cases hk; omega))
      · simp; exact hz1
    · have hi2 : ¬ (i : Int) < (n : Int) := by omega
      go_wp2_with fail
      go_quiet (fail)
      go_wp2_with fail
      go_ret
      exact ⟨q % m, rfl, Int.emod_nonneg _ (by omega), fun _ => Int.emod_lt_of_pos _ (by omega), fun h => by omega, ⟨hB, _, i, H, hv1.keep fun k hk => rfl, hr1.drewN _, hi⟩, hC1.trans (Chg.of_below (below_drewN (Below.refl _ _) _)), hz1⟩
end Go.Proofs.Ytcjinlfgeljmkaa
