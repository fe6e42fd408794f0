/- Lemmas of SrcP. -/
import Derived.Test.YtcjinlfgeljmkaaWTSrc
import Derived.StillTailTactics
set_option linter.unusedSimpArgs false
set_option linter.unusedVariables false
namespace Go.Proofs.Ytcjinlfgeljmkaa
open Go.RowKit

theorem Src.below {w w' : World} {B n b : Nat} (h : Src w B n b) (hb : Below w.heap.size w w') (hB : B ≤ w.heap.size) : Src w' B n b := by
  obtain ⟨h1, v, i, k, hv, hr, hi⟩ := h
  exact ⟨h1, v, i, k, hv.keep fun j hj => hb.block j (by omega), hr.below hb (Nat.le_refl _), hi⟩
theorem Src.chg {w w' : World} {B n b lo hi : Nat} (h : Src w B n b) (hc : Chg lo hi w w') (hB : B ≤ w.heap.size) (hlo : B ≤ lo) (hb : b < lo ∨ hi ≤ b) : Src w' B n b := by
  have hl := h.lt
  obtain ⟨h1, v, i, k, hv, hr, hi'⟩ := h
  refine ⟨h1, v, i, k, hv.keep fun j hj => hc.block j (by omega) (.inl (by omega)), ?_, hi'⟩
  have e := hc.block b hl hb
  obtain ⟨⟨c0, c1, c2⟩, cf⟩ := hr
  exact ⟨⟨(World.cell?_of_block (w := w) (a := ⟨b, 0, none⟩) e).trans c0, (World.cell?_of_block (w := w) (a := ⟨b, 1, none⟩) e).trans c1, (World.cell?_of_block (w := w) (a := ⟨b, 2, none⟩) e).trans c2⟩, fun k => (World.frozen?_of_block (w := w) (a := ⟨b, k, none⟩) e).trans (cf k)⟩

set_option maxHeartbeats 400000 in
set_option maxRecDepth 100000 in
theorem l01Pick_c (B n b : Nat) (v : Value) (xs : List Int) (w : World) (hs : Src w B n b) (hv : RdI w v xs) (h1 : 1 ≤ xs.length) (hd : ∀ w', Chg b (b + 1) w w' → RdI w' v xs) :
    Calls Try.prog 130 #[.pointer (some ⟨b, 0, none⟩), v] w fun e w' => ∃ r, e = .returned (.int .i64 r) ∧ r ∈ xs ∧ Src w' B n b ∧ Chg b (b + 1) w w' ∧ w'.heap.size = w.heap.size := by
  obtain ⟨o, c, rfl, hmx, hc⟩ := id hv
  have hml := hmx.1
  unfold maxLen at hml
  clear hc
  go_enter Try.func130, Try.ntmps130
  go_wp2_with fail
  refine (l01Next_c B n b _ w hs).mono ?_
  rintro e w1 ⟨r, rfl, r0, r1, r2, hs1, hc1, hz1⟩
  have r1 := r1 (by omega)
  clear r2
  obtain ⟨k, rfl⟩ : ∃ k : Nat, r = k := ⟨r.toNat, by omega⟩
  have hv1 := hd _ hc1
  obtain ⟨bb, fx, rfl, hcx⟩ := hv1.cells (by omega)
  have hk : k < xs.length := by omega
  have cx := hcx k _ (List.getElem?_eq_getElem hk)
  have r1' : (k : Int) < (xs.length : Int) := by omega
  go_wp2
  go_ret
  exact ⟨_, rfl, List.getElem_mem hk, hs1, hc1, hz1⟩

set_option maxHeartbeats 400000 in
set_option maxRecDepth 100000 in
theorem l01From_c (B n : Nat) (v : Value) (w : World) (hv : RdB w B n v) (hB : B ≤ w.heap.size) :
    Calls Try.prog 114 #[v] w fun e w' => ∃ b, e = .returned (.pointer (some ⟨b, 0, none⟩)) ∧ Src w' w.heap.size n b ∧ Below w.heap.size w w' := by
  obtain ⟨o, c, rfl, hmx, hc⟩ := id hv
  have hml := hmx.1
  unfold maxLen at hml
  clear hc
  go_enter Try.func114, Try.ntmps114
  go_wp2_with fail
  go_loopw [4] (fun i wr => ∃ (k : Nat) (h : Int), k ≤ n ∧ i = .int .i64 k ∧ RB3 wr w.heap.size (.slice o n c) (.int .i64 0) (.int .u64 h) ∧ Below w.heap.size w wr) (fun i _ => n - (intOf i).toNat)
  case atStart => exact ⟨0, _, Nat.zero_le _, rfl, RB3.mk1 _ _ _ _ _, (by (repeat (first | exact Below.refl _ _ | (refine Below.setCell ?_ (by first | (simp; done) | (simp; omega) | omega) _) | (refine Below.alloc ?_ (by first | (simp; done) | (simp; omega) | omega) _) | (refine below_drewN ?_ _) | (refine Below.drew ?_))))⟩
  case round =>
    obtain ⟨k, h, hk, rfl, hR, hbr⟩ := hrel
    have hvr := hv.keep (w' := wr) (fun j hj => hbr.block j (by omega))
    obtain ⟨o', c', heq, _, hcx⟩ := id hvr
    obtain ⟨rfl, rfl⟩ : o = o' ∧ c = c' := by simpa using heq
    clear heq
    obtain ⟨⟨x0, x1, x2⟩, xf⟩ := id hR
    by_cases hlt : k < n ∧ k < 4096
    · obtain ⟨bb, off, x, hbb, rfl, hcell, y0, y1⟩ := hcx k (by omega)
      have i1 : (k : Int) < (n : Int) := by omega
      have i2 : (k : Int) < 4096 := by omega
      clear hcx
      go_wp2_with fail
      go_still_tail 15, (by kernel_rfl)
      change wpList _ _ _ _ _ wr.drew
      go_wp2
      exact ⟨⟨k + 1, _, by omega, by go_num, hR.set2 _, Below.drew (below_put hbr (Nat.le_refl _) _)⟩, by simp [intOf]; omega⟩
    · rcases Nat.lt_or_ge k n with h1 | h1
      · first
        | (exfalso; omega)
        | (have i1 : (k : Int) < (n : Int) := by omega
           have i2 : ¬ (k : Int) < 4096 := by omega
           go_wp2
           go_ret
           exact ⟨_, rfl, ⟨Nat.le_refl _, _, 0, h, hvr.mono hB, hR, Nat.zero_le _⟩, hbr⟩)
      · have i1 : ¬ (k : Int) < (n : Int) := by omega
        go_wp2
        go_ret
        exact ⟨_, rfl, ⟨Nat.le_refl _, _, 0, h, hvr.mono hB, hR, Nat.zero_le _⟩, hbr⟩
set_option maxHeartbeats 400000 in
set_option maxRecDepth 100000 in
theorem roll_c (B n : Nat) (v : Value) (z : Int)(w : World) (hv : RdB w B n v) (hB : B ≤ w.heap.size) :
    Calls Try.prog 52 #[v, .int .u64 z] w fun e w' => ∃ b, e = .returned (.pointer (some ⟨b, 0, none⟩)) ∧ Src w' w.heap.size n b ∧ Below w.heap.size w w' := by
  obtain ⟨o, c, rfl, hmx, hc⟩ := id hv
  have hml := hmx.1
  unfold maxLen at hml
  clear hc
  go_enter Try.func52, Try.ntmps52
  go_wp2_with fail
  go_loopw [6] (fun i wr => ∃ (k : Nat) (h : Int), k ≤ n ∧ i = .int .i64 k ∧ RB3 wr w.heap.size (.slice o n c) (.int .i64 0) (.int .u64 h) ∧ Below w.heap.size w wr) (fun i _ => n - (intOf i).toNat)
  case atStart => exact ⟨0, _, Nat.zero_le _, rfl, RB3.mk1 _ _ _ _ _, (by (repeat (first | exact Below.refl _ _ | (refine Below.setCell ?_ (by first | (simp; done) | (simp; omega) | omega) _) | (refine Below.alloc ?_ (by first | (simp; done) | (simp; omega) | omega) _) | (refine below_drewN ?_ _) | (refine Below.drew ?_))))⟩
  case round =>
    obtain ⟨k, h, hk, rfl, hR, hbr⟩ := hrel
    have hvr := hv.keep (w' := wr) (fun j hj => hbr.block j (by omega))
    obtain ⟨o', c', heq, _, hcx⟩ := id hvr
    obtain ⟨rfl, rfl⟩ : o = o' ∧ c = c' := by simpa using heq
    clear heq
    obtain ⟨⟨x0, x1, x2⟩, xf⟩ := id hR
    by_cases hlt : k < n
    · obtain ⟨bb, off, x, hbb, rfl, hcell, y0, y1⟩ := hcx k (by omega)
      have i1 : (k : Int) < (n : Int) := by omega
      have i2 : (k : Int) < (n : Int) := by omega
      clear hcx
      go_wp2_with fail
      go_still_tail 15, (by kernel_rfl)
      change wpList _ _ _ _ _ wr.drew
      go_wp2
      exact ⟨⟨k + 1, _, by omega, by go_num, hR.set2 _, Below.drew (below_put hbr (Nat.le_refl _) _)⟩, by simp [intOf]; omega⟩
    · rcases Nat.lt_or_ge k n with h1 | h1
      · first
        | (exfalso; omega)
        | (have i1 : (k : Int) < (n : Int) := by omega
           have i2 : ¬ (k : Int) < (n : Int) := by omega
           go_wp2
           go_ret
           exact ⟨_, rfl, ⟨Nat.le_refl _, _, 0, h, hvr.mono hB, hR, Nat.zero_le _⟩, hbr⟩)
      · have i1 : ¬ (k : Int) < (n : Int) := by omega
        go_wp2
        go_ret
        exact ⟨_, rfl, ⟨Nat.le_refl _, _, 0, h, hvr.mono hB, hR, Nat.zero_le _⟩, hbr⟩
end Go.Proofs.Ytcjinlfgeljmkaa
