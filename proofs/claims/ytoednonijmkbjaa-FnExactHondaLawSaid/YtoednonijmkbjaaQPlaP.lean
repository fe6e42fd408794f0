/- Lemmas of PlaP. -/
import Derived.Test.YtoednonijmkbjaaQG3
import Derived.Test.YtoednonijmkbjaaQG1
set_option linter.unusedSimpArgs false
set_option linter.unusedVariables false
namespace Go.Proofs.Ytoednonijmkbjaa
open Go.RowKit

structure PR where
  m : Int
  xs : List (List Int)
  code : Int
def PEnd (w w' : World) (r : PR) (e : Ending) : Prop :=
  ∃ v', e = .returned (.tuple #[.agg #[.int .i64 r.m, v'], .int .i64 r.code]) ∧ OwS w' w.heap.size v' r.xs ∧ Below w.heap.size w w' ∧ sizeT r.xs ≤ 1048576
def PVEnd (w w' : World) (m : Int) (xss : List (List Int)) (e : Ending) : Prop :=
  ∃ v', e = .returned (.agg #[.int .i64 m, v']) ∧ OwS w' w.heap.size v' xss ∧ Below w.heap.size w w'

theorem RB2.put1 {w : World} {b : Nat} {x y : Value} (h : RB2 w b x y) (u : Value) : RB2 (w.setCell ⟨b, 1, none⟩ u) b x u := by
  obtain ⟨⟨h0, h1⟩, hf⟩ := h
  exact ⟨⟨(World.cell?_setCell_other w ⟨b, 1, none⟩ ⟨b, 0, none⟩ u (by simp)).trans h0, World.cell?_setCell_same _ _ _ h1⟩, fun k => by rw [World.frozen?_setCell]; exact hf k⟩

set_option maxHeartbeats 2000000 in
set_option maxRecDepth 100000 in
theorem emptyPlane_c (m d : Int) (n : Nat) (w : World) (hd : d = (n : Int) - 1) (hn : n ≤ 1000) :
    Calls Try.prog 59 #[.int .i64 m, .int .i64 d] w fun e w' => PVEnd w w' m (zeroT n) e := by
  subst hd
  go_enter Try.func59, Try.ntmps59
  go_wp2_with fail
  have B0 : Below w.heap.size w ((w.alloc (.cells #[.int .i64 0, .slice none 0 0] 24)).alloc (.cells #[.int .i64 m, .slice none 0 0] 24)) := (by (repeat (first | exact Below.refl _ _ | (refine Below.setCell ?_ (by first | (simp; done) | (simp; omega) | omega) _) | (refine Below.alloc ?_ (by first | (simp; done) | (simp; omega) | omega) _) | (refine below_drewN ?_ _) | (refine Below.drew ?_))))
  have R0 := (RB2.mk1 w (.int .i64 0) (.slice none 0 0) 24).below (w' := (w.alloc (.cells #[.int .i64 0, .slice none 0 0] 24)).alloc (.cells #[.int .i64 m, .slice none 0 0] 24)) ((by (repeat (first | exact Below.refl _ _ | (refine Below.setCell ?_ (by first | (simp; done) | (simp; omega) | omega) _) | (refine Below.alloc ?_ (by first | (simp; done) | (simp; omega) | omega) _) | (refine below_drewN ?_ _) | (refine Below.drew ?_))))) (Nat.le_refl _)
  have O0 := RB2.mk2 w (.cells #[.int .i64 0, .slice none 0 0] 24) (.int .i64 m) (.slice none 0 0) 24
  generalize (w.alloc (.cells #[.int .i64 0, .slice none 0 0] 24)).alloc (.cells #[.int .i64 m, .slice none 0 0] 24) = w0 at B0 R0 O0 ⊢
  have hO0 := O0.1.lt
  have hR0 := R0.1.lt
  go_loopw [11] (fun i wr => ∃ (k : Nat) (ov : Option Addr) (cv : Nat), k ≤ n ∧ i = .int .i64 k ∧ OwS wr w0.heap.size (.slice ov k cv) (zeroRows n k) ∧ RB2 wr (w.heap.size + 1) (.int .i64 m) (.slice ov k cv) ∧ RB2 wr w.heap.size (.int .i64 0) (.slice none 0 0) ∧ Below w.heap.size w wr ∧ w0.heap.size ≤ wr.heap.size) (fun i _ => n - (intOf i).toNat)
  case atStart => exact ⟨0, _, _, Nat.zero_le _, rfl, OwS.nil _ _, O0, R0, B0, Nat.le_refl _⟩
  case round =>
    obtain ⟨k, ov, cv, hk, rfl, hO, hB, hR, hBr, hsz⟩ := hrel
    by_cases hlt : k < n
    · obtain ⟨⟨x0, x1⟩, xf⟩ := id hB
      have HS := Lib.hid (zeroRows_snoc n k)
      have HLn := Lib.hid (zeroRows_len n k)
      generalize zeroRows n k = l at hO HS HLn
      have e1 : IntKind.i64.wrap (n : Int) = (n : Int) := IntWalk.i64_in _ (by omega)
      have e2 : IntKind.i64.wrap ((n : Int) - (k : Int)) = (n : Int) - (k : Int) := IntWalk.i64_in _ (by omega)
      go_wp2_with fail
      refine wp_region_S (S := fun w' => w'.cell? ⟨w.heap.size + 1, 1, none⟩ = some (.slice ov k cv)) 10 (by kernel_rfl) ?_
      have hHeld : (fun w' : World => w'.cell? ⟨w.heap.size + 1, 1, none⟩ = some (.slice ov k cv)) wr.drew := by go_keep
      refine' wpAnyS_takeL (i := 0) (v := _) rfl (by kernel_rfl) (by kernel_rfl) (by kernel_rfl) (by kernel_rfl) (fun _ _ _ h => h) (Or.inl ⟨by rfl, ?yE0⟩) hHeld ?rE0
      case yE0 => (intro w' hSw; (try dsimp only at hSw); go_simp; try with_reducible rfl)
      try simp only [Act.put, List.setIfInBounds_toArray, List.set_cons_zero, List.set_cons_succ]
      refine' wpAnyS_takeL (i := 1) (v := _) rfl (by kernel_rfl) (by kernel_rfl) (by kernel_rfl) (by kernel_rfl) (fun _ _ _ h => h) (Or.inl ⟨by rfl, ?yE1⟩) hHeld ?rE1
      case yE1 => (intro w' hSw; (try dsimp only at hSw); go_simp; try with_reducible rfl)
      try simp only [Act.put, List.setIfInBounds_toArray, List.set_cons_zero, List.set_cons_succ]
      refine' wpAnyS_takeL (i := 2) (v := _) rfl (by kernel_rfl) (by kernel_rfl) (by kernel_rfl) (by kernel_rfl) (fun _ _ _ h => h) (Or.inl ⟨by rfl, ?yE2⟩) hHeld ?rE2
      case yE2 => (intro w' hSw; (try dsimp only at hSw); go_simp; try with_reducible rfl)
      try simp only [Act.put, List.setIfInBounds_toArray, List.set_cons_zero, List.set_cons_succ]
      refine' wpAnyS_takeL (i := 3) (v := _) rfl (by kernel_rfl) (by kernel_rfl) (by kernel_rfl) (by kernel_rfl) (fun _ _ _ h => h) (Or.inl ⟨by rfl, ?yE3⟩) hHeld ?rE3
      case yE3 => (intro w' hSw; (try dsimp only at hSw); go_simp; try with_reducible rfl)
      try simp only [Act.put, List.setIfInBounds_toArray, List.set_cons_zero, List.set_cons_succ]
      refine' wpAnyS_takeL (i := 4) (v := _) rfl (by kernel_rfl) (by kernel_rfl) (by kernel_rfl) (by kernel_rfl) (fun _ _ _ h => h) (Or.inl ⟨by rfl, ?yE4⟩) hHeld ?rE4
      case yE4 => (intro w' hSw; (try dsimp only at hSw); go_simp; try with_reducible rfl)
      try simp only [Act.put, List.setIfInBounds_toArray, List.set_cons_zero, List.set_cons_succ]
      refine' wpAnyS_takeL (i := 5) (v := _) rfl (by kernel_rfl) (by kernel_rfl) (by kernel_rfl) (by kernel_rfl) (fun _ _ _ h => h) (Or.inl ⟨by rfl, ?yE5⟩) hHeld ?rE5
      case yE5 => (intro w' hSw; (try dsimp only at hSw); go_simp; try with_reducible rfl)
      try simp only [Act.put, List.setIfInBounds_toArray, List.set_cons_zero, List.set_cons_succ]
      clear e1 e2
      refine wpAnyS_oneL (i := 6) rfl (by kernel_rfl) (fun K hK => ?_)
      refine stMk rfl _ _ rfl _ _ _ (n - k) rfl rfl (by omega) (by omega) ?_
      intro w2 how hb2 hs2
      have hb2' : Below wr.heap.size wr w2 := ((Below.refl wr.heap.size wr).drew).trans hb2
      have how' : OwI w2 wr.heap.size (.slice (some ⟨wr.heap.size, 0, none⟩) (n - k) (n - k)) (List.replicate (n - k) 0) := how
      have hs2' : w2.heap.size = wr.heap.size + 1 := hs2
      have hz2 : wr.heap.size < w2.heap.size := by omega
      clear hs2 hs2'
      have hB2 := hB.below hb2' (Nat.le_refl _)
      refine hK.out _ _ (fun _ => hB2.1.2) ?_
      clear hK K
      try simp only [Act.put, List.setIfInBounds_toArray, List.set_cons_zero, List.set_cons_succ]
      obtain ⟨W, hW⟩ : ∃ W : World, W = w2.alloc (.cells #[.slice (some ⟨wr.heap.size, 0, none⟩) (n - k) (n - k)] 30) := ⟨_, rfl⟩
      have hWs : W.heap.size = w2.heap.size + 1 := by rw [hW]; simp
      have hbW : Below wr.heap.size wr W := by rw [hW]; exact hb2'.alloc (by omega) _
      have hT : OwSR w0.heap.size wr.heap.size W (.slice ov k cv) l := hO.toR.stay (fun j _ hj => hbW.block j hj)
      have hU : OwI W wr.heap.size (.slice (some ⟨wr.heap.size, 0, none⟩) (n - k) (n - k)) (List.replicate (n - k) 0) := by rw [hW]; exact how'.alloc _
      have hC : W.cell? ⟨w2.heap.size, 0, none⟩ = some (.slice (some ⟨wr.heap.size, 0, none⟩) (n - k) (n - k)) := by rw [hW]; simp
      have hBW := hB.below hbW (Nat.le_refl _)
      have HW := Lib.hid hW
      clear hW
      refine wpAnyS_oneL (i := 7) rfl (by kernel_rfl) (fun K hK => ?_)
      go_simp
      rw [← HW.out]
      refine hK.out _ _ (fun _ => hBW.1.2) ?_
      clear hK K
      try simp only [Act.put, List.setIfInBounds_toArray, List.set_cons_zero, List.set_cons_succ]
      refine wpAnyS_oneL (i := 8) rfl (by kernel_rfl) (fun K hK => ?_)
      refine stT W rfl _ _ rfl w0.heap.size wr.heap.size (.slice ov k cv) l rfl hT (by omega) hsz _ _ w2.heap.size rfl hC hU (by rw [HLn.out]; omega) ?_
      intro g cap w3 hO3 hgr hb3
      clear hgr
      have hB3 := hBW.belowB hb3 hO0
      have hR3 := (hR.below hbW (Nat.le_refl _)).belowB hb3 hR0
      have B3 : Below w.heap.size w w3 := (hBr.trans (hbW.mono hBr.size)).trans (hb3.mono (by omega))
      refine hK.out _ _ (fun _ => hB3.1.2) ?_
      clear hK K
      try simp only [Act.put, List.setIfInBounds_toArray, List.set_cons_zero, List.set_cons_succ]
      refine wpAnyS_oneL (i := 9) rfl (by kernel_rfl) (fun K hK => ?_)
      go_simp
      refine hK.out _ _ (fun _ => hB3.1.2) ?_
      clear hK K
      try simp only [Act.put, List.setIfInBounds_toArray, List.set_cons_zero, List.set_cons_succ]
      refine wpAnyS_oneL (i := 10) rfl (by kernel_rfl) (fun K hK => ?_)
      obtain ⟨⟨z0, z1⟩, zf⟩ := id hB3
      go_simp
      refine hK.out _ _ (fun h => absurd h (by decide)) ?_
      clear hK K
      try simp only [Act.put, List.setIfInBounds_toArray, List.set_cons_zero, List.set_cons_succ]
      refine wpAnyS_done (by kernel_rfl) ?_ _
      rw [HLn.out, ← HS.out] at hO3
      rw [HLn.out]
      go_wp2_with fail
      have hO4 := hO3.low (g := w.heap.size + 1) (k := 1) hO0 (.slice (some ⟨g, 0, none⟩) (k + 1) cap)
      have hB4 := hB3.put1 (.slice (some ⟨g, 0, none⟩) (k + 1) cap)
      have hR4 := hR3.put' (a := ⟨w.heap.size + 1, 1, none⟩) (by simp) (.slice (some ⟨g, 0, none⟩) (k + 1) cap)
      have B4 : Below w.heap.size w (w3.setCell ⟨w.heap.size + 1, 1, none⟩ (.slice (some ⟨g, 0, none⟩) (k + 1) cap)) := below_put B3 (by omega) _
      have hsz4 : w0.heap.size ≤ w3.heap.size := by have := hb3.size; omega
      exact ⟨⟨k + 1, _, _, by omega, by go_num, hO4, hB4, hR4, B4, by simpa using hsz4⟩, by simp [intOf]; omega⟩
    · obtain rfl : k = n := by omega
      rw [zeroRows_all] at hO
      obtain ⟨⟨x0, x1⟩, xf⟩ := id hB
      obtain ⟨⟨r0, r1⟩, rf⟩ := id hR
      go_wp2
      refine bodyPost_ret (v := .agg #[.int .i64 m, .slice ov k cv]) (by simp [results, Try.results59, go_sem, r0, r1]) rfl ⟨_, rfl, ?_, ?_⟩
      · exact ((hO.low (show w.heap.size < w0.heap.size by omega) _).low (show w.heap.size < w0.heap.size by omega) _).mono (by omega)
      · (repeat (first | exact Below.refl _ _ | (refine Below.setCell ?_ (by first | (simp; done) | (simp; omega) | omega) _) | (refine Below.alloc ?_ (by first | (simp; done) | (simp; omega) | omega) _) | (refine below_drewN ?_ _) | (refine Below.drew ?_) | (refine Below.trans ?_ (Below.mono hBr (by first | (simp; done) | (simp; omega) | omega)))))

end Go.Proofs.Ytoednonijmkbjaa
