/- Lemmas of SrcL. -/
import Derived.Test.YtcjinlfgeljmkaaWTSrcS
import Derived.Test.YtcjinlfgeljmkaaWTPlaR
set_option linter.unusedSimpArgs false
set_option linter.unusedVariables false
namespace Go.Proofs.Ytcjinlfgeljmkaa
open Go.RowKit

def Stp (n : Nat) (xss : List (List Int)) : Prop := xss.length = n ∧ ∀ k row, xss[k]? = some row → row.length = n - k
def PDr (N : Nat) (w w' : World) (B n b : Nat) (e : Ending) : Prop := ∃ m v xss, e = .returned (.agg #[.int .i64 m, v]) ∧ OwS w' w.heap.size v xss ∧ Stp N xss ∧ DW B n b w w'
theorem OwS.dw {B n b : Nat} {w w' : World} {C : Nat} {v : Value} {xss : List (List Int)} (h : OwS w C v xss) (hd : DW B n b w w') (hne : b < C) : OwS w' C v xss := by
  have h1 := h.toR
  by_cases hC : C ≤ w.heap.size
  · exact (h1.stay (fun j hj1 hj2 => hd.chg.block j hj2 (.inr (by omega)))).ow
  · exact (h1.stay (fun j hj1 hj2 => by omega)).ow

theorem OwS.ltL {w : World} {B : Nat} {v : Value} {xss : List (List Int)} (h : OwS w B v xss) : ∀ b, v.ownBlock = some b → B ≤ b ∧ b < w.heap.size := by
  obtain ⟨us, -, h2, -⟩ := h; exact h2.lt

set_option maxHeartbeats 2000000 in
set_option maxRecDepth 100000 in
theorem l03With_d (B n b : Nat) (m : Int) (D : Nat) (w : World) (hs : Src w B n b) (hD : D ≤ 100) :
    Calls Try.prog 214 #[.pointer (some ⟨b, 0, none⟩), .int .i64 m, .int .i64 D] w fun e w' => PDr (D + 1) w w' B n b e := by
  have hlt := hs.lt
  go_enter Try.func214, Try.ntmps214
  go_wp2_with fail
  have O1 := OwS.lit0 (w.alloc (.cells #[.int .i64 0, .slice none 0 0] 42))
  rw [show (w.alloc (.cells #[.int .i64 0, .slice none 0 0] 42)).heap.size = w.heap.size + 1 by simp] at O1
  have hR0 := (RB2.mk1 w (.int .i64 0) (.slice none 0 0) 42).below (w' := (w.alloc (.cells #[.int .i64 0, .slice none 0 0] 42)).alloc (.cells #[] 24)) (by (repeat (first | exact Below.refl _ _ | (refine Below.setCell ?_ (by first | (simp; done) | (simp; omega) | omega) _) | (refine Below.alloc ?_ (by first | (simp; done) | (simp; omega) | omega) _) | (refine below_drewN ?_ _) | (refine Below.drew ?_)))) (Nat.le_refl _)
  have hd0 := ((DW.refl hs).alloc (.cells #[.int .i64 0, .slice none 0 0] 42)).alloc (.cells #[] 24)
  generalize (w.alloc (.cells #[.int .i64 0, .slice none 0 0] 42)).alloc (.cells #[] 24) = w0 at O1 hR0 hd0 ⊢
  go_loopw [7, 8] (fun s i wr => ∃ (k : Nat) (l : List (List Int)) (ov : Option Addr) (cv : Nat), k ≤ D + 1 ∧ i = .int .i64 k ∧ s = .slice ov k cv ∧ OwS wr (w.heap.size + 1) (.slice ov k cv) l ∧ Hid (l.length = k ∧ ∀ j row, l[j]? = some row → row.length = D + 1 - j) ∧ RB2 wr w.heap.size (.int .i64 0) (.slice none 0 0) ∧ DW B n b w wr) (fun _ i _ => D + 1 - (intOf i).toNat)
  case atStart => exact ⟨0, [], _, 0, Nat.zero_le _, by go_num, rfl, O1, Lib.hid ⟨rfl, by simp⟩, hR0, hd0⟩
  case round =>
    clear O1 hR0 hd0
    obtain ⟨k, l, ov, cv, hk, rfl, rfl, hO, HL, hR, hd⟩ := hrel
    have hRl := hR.1.lt
    have hz := hd.size
    by_cases hlt2 : k < D + 1
    · have i1 : (k : Int) ≤ (D : Int) := by omega
      have e1 : IntKind.i64.wrap ((D : Int) - k) = (D : Int) - k := IntWalk.i64_in _ (by omega)
      have e2 : IntKind.i64.wrap ((D : Int) - k + 1) = (D : Int) - k + 1 := IntWalk.i64_in _ (by omega)
      go_wp2_with fail
      refine (list_i B n b m ((D : Int) - k + 1) (D + 1 - k) wr hd.src (by omega) (by omega)).mono ?_
      rintro e w2 ⟨vr, row, rfl, hOr, hlr, hdr⟩
      obtain ⟨orr, crr, rfl⟩ := hOr.shapeN (n := D + 1 - k) hlr
      have hz2 := hdr.size
      have hR2 := hR.dw hdr hlt
      have hd2 := hd.trans hdr
      have hOl := hO.ltL
      have HLR := Lib.hid hlr
      have hO2 : OwSR (w.heap.size + 1) wr.heap.size w2 (.slice ov k cv) l := hO.toR.stay (fun j hj1 hj2 => hdr.chg.block j hj2 (.inr (by omega)))
      clear hlr hR hdr
      go_wp2_with (at_builtin; obtain ⟨W, hW⟩ : ∃ W : World, W = w2.alloc (.cells #[.slice orr (D + 1 - k) crr] 24) := ⟨_, rfl⟩; have hWs : W.heap.size = w2.heap.size + 1 := (by rw [hW]; simp); have hT : OwSR (w.heap.size + 1) wr.heap.size W (.slice ov k cv) l := (by rw [hW]; exact hO2.stay (fun j _ hj => Below.heap_alloc _ _ j (by omega))); have hU : OwI W wr.heap.size (.slice orr (D + 1 - k) crr) row := (by rw [hW]; exact hOr.alloc _); have hC : W.cell? ⟨w2.heap.size, 0, none⟩ = some (.slice orr (D + 1 - k) crr) := (by rw [hW]; simp); have hdW : DW B n b w W := (by rw [hW]; exact hd2.alloc _); have hRW : RB2 W w.heap.size (.int .i64 0) (.slice none 0 0) := (by rw [hW]; exact hR2.below ((Below.refl _ _).alloc (Nat.le_refl _) _) (Nat.le_refl _)); rw [← hW]; have HW := Lib.hid hW; clear hW; go_loud (refine apT W rfl _ _ rfl (w.heap.size + 1) wr.heap.size (.slice ov k cv) l rfl hT (by omega) (by omega) _ _ w2.heap.size rfl hC hU (by have := HL.out.1; omega) ?_; intro g cap w3 hO3 hgr hb3; have hd3 := hdW.grown hgr (fun j hj => by have := hOl j hj; omega); have hR3 := hRW.grown hgr (fun e => by have := hOl _ e.symm; omega)))
      rw [HL.out.1] at hO3
      have HS := Lib.hid (show (l ++ [row]).length = k + 1 ∧ ∀ j r, (l ++ [row])[j]? = some r → r.length = D + 1 - j by
        refine ⟨by simp [HL.out.1], fun j r hj => ?_⟩
        by_cases h : j < l.length
        · rw [List.getElem?_append_left h] at hj; exact HL.out.2 j r hj
        · rw [List.getElem?_append_right (by omega)] at hj
          have hjl : j - l.length = 0 := by
            have := (List.getElem?_eq_some_iff.1 hj).1
            simp at this; omega
          rw [hjl] at hj
          obtain rfl : row = r := by simpa using hj
          rw [HLR.out]; have := HL.out.1; omega)
      exact ⟨⟨k + 1, l ++ [row], _, _, by omega, by go_num, by rw [HL.out.1], hO3, HS, hR3, hd3⟩, by simp [intOf]; omega⟩
    · obtain rfl : k = D + 1 := by omega
      have i1 : ¬ ((D + 1 : Nat) : Int) ≤ (D : Int) := by omega
      clear hlt2 hk
      go_wp2_with fail
      refine (next_d B n b _ wr hd.src).mono ?_
      rintro e w2 ⟨x, rfl, x0, x1, x2, hdr, hz2⟩
      have hO2 := hO.dw hdr (by omega)
      have hR2 := hR.dw hdr hlt
      have hd2 := hd.trans hdr
      clear hO hR hd hdr x1 x2
      have HN := Lib.hid HL.out.1
      obtain ⟨g, rfl, hg1, hg2⟩ := hO2.row (by omega)
      by_cases hx : x = 0
      · subst hx
        obtain ⟨row, hrow⟩ : ∃ row, l[0]? = some row := ⟨l[0]'(by have := HN.out; omega), by simp [HN.out]⟩
        have hrl : row.length = D + 1 := by have := HL.out.2 0 row hrow; omega
        obtain ⟨o2, c2, cx2, how2, hbl2, hset2⟩ := hO2.toR.at hrow
        have HRL := Lib.hid hrl
        rw [hrl] at cx2 how2 hbl2 hset2
        obtain ⟨gr, rfl, hgr1, hgr2⟩ := how2.row (by omega)
        have hgr3 := hbl2 gr rfl
        have hc0 := how2.cell (k := 0) (some_at0 (xs := row) (k := 0) (by have := HRL.out; omega))
        have hf0 := how2.fz 0
        have HS2 := Lib.hid hset2
        have HROW := Lib.hid hrow
        clear hset2 hbl2 hrl hrow
        have j0 : (0 : Int) < ((D + 1 : Nat) : Int) := by omega
        go_wp2_with fail
        have hO3 := HS2.out _ _ (by rw [List.length_set, HRL.out]) (gr_put (World.grownBy.refl w2 (some gr)) 0 (.int .i64 0)) (how2.put 0 0)
        have hR3 := hR2.off (g := gr) (k := 0) (by omega) (.int .i64 0)
        have hd3 := hd2.put (g := gr) (by omega) 0 (.int .i64 0)
        have HS3 := Lib.hid (show Stp (D + 1) (l.set 0 (row.set 0 0)) from ⟨by rw [List.length_set, HN.out], fun j r hj => by
          rw [List.getElem?_set] at hj
          by_cases h : 0 = j
          · subst h
            rw [if_pos rfl] at hj
            split at hj
            · obtain rfl := Option.some.inj hj
              rw [List.length_set, HRL.out]; omega
            · cases hj
          · rw [if_neg h] at hj; exact HL.out.2 j r hj⟩)
        generalize l.set 0 (row.set 0 0) = l2 at hO3 HS3
        have hO3 := hO3.ow
        clear HS2 hc0 hf0 how2 hR2 hd2 hO2 cx2
        generalize w2.setCell ⟨gr, 0, none⟩ (.int .i64 0) = w3 at hO3 hR3 hd3 ⊢
        have hR4 := hR3
        refine (l03Make_c m (some ⟨g, 0, none⟩) (D + 1) cv w3).mono ?_
        rintro e w7 ⟨rfl, hb7⟩
        have hR7 := hR4.below hb7 (Nat.le_refl _)
        have hO7 := hO3.below hb7
        have hd7 := hd3.below hb7
        obtain ⟨⟨r0, r1⟩, rf⟩ := id hR7
        go_wp2_with fail
        refine bodyPost_ret (v := .agg #[.int .i64 m, .slice (some ⟨g, 0, none⟩) (D + 1) cv]) (by simp [results, Try.results214, go_sem, r0, r1]) rfl ⟨m, _, l2, rfl, ?_, HS3.out, ?_⟩
        · exact ((hO7.low (by omega) _).low (by omega) _).mono (by omega)
        · exact (hd7.put (Nat.le_refl _) _ _).put (Nat.le_refl _) _ _
      · have hx2 : (x == 0) = false := by simpa using hx
        go_wp2_with fail
        refine (l03Make_c m (some ⟨g, 0, none⟩) (D + 1) cv w2).mono ?_
        rintro e w7 ⟨rfl, hb7⟩
        have hR7 := hR2.below hb7 (Nat.le_refl _)
        have hO7 := hO2.below hb7
        have hd7 := hd2.below hb7
        obtain ⟨⟨r0, r1⟩, rf⟩ := id hR7
        go_wp2_with fail
        refine bodyPost_ret (v := .agg #[.int .i64 m, .slice (some ⟨g, 0, none⟩) (D + 1) cv]) (by simp [results, Try.results214, go_sem, r0, r1]) rfl ⟨m, _, l, rfl, ?_, ⟨HN.out, HL.out.2⟩, ?_⟩
        · exact ((hO7.low (by omega) _).low (by omega) _).mono (by omega)
        · exact (hd7.put (Nat.le_refl _) _ _).put (Nat.le_refl _) _ _
theorem with_i (B n b : Nat) (m d : Int) (D : Nat) (w : World) (hs : Src w B n b) (hD : D ≤ 100) (hd : d = D) :
    Calls Try.prog 214 #[.pointer (some ⟨b, 0, none⟩), .int .i64 m, .int .i64 d] w fun e w' => PDr (D + 1) w w' B n b e := by subst hd; exact l03With_d B n b m D w hs hD

set_option maxHeartbeats 1000000 in
set_option maxRecDepth 100000 in
theorem l03Draw_d (B n b : Nat) (w : World) (hs : Src w B n b) :
    Calls Try.prog 213 #[.pointer (some ⟨b, 0, none⟩)] w fun e w' => ∃ N, (2 ≤ N ∧ N ≤ 11) ∧ PDr N w w' B n b e := by
  have hlt := hs.lt
  go_enter Try.func213, Try.ntmps213
  go_wp2_with fail
  have hR0 := RB2.mk1 w (.int .i64 0) (.slice none 0 0) 42
  have hd0 : DW B n b w (w.alloc (.cells #[.int .i64 0, .slice none 0 0] 42)) := (DW.refl hs).alloc _
  have hz0 := hd0.size
  generalize w.alloc (.cells #[.int .i64 0, .slice none 0 0] 42) = w0 at hR0 hd0 hz0 ⊢
  refine (l01DrawModulus_d B n b w0 hd0.src).mono ?_
  rintro e w1 ⟨m, rfl, hd1⟩
  have hR1 := hR0.dw hd1 hlt
  have hd1 := hd0.trans hd1
  go_wp2_with fail
  refine (next_d B n b _ w1 hd1.src).mono ?_
  rintro e w2 ⟨x, rfl, x0, x1, x2, hd2, hz2⟩
  have x1 := x1 (by omega)
  have hR2 := hR1.dw hd2 hlt
  have hd2 := hd1.trans hd2
  clear hz2 x2
  go_wp2_with fail
  refine (next_d B n b _ w2 hd2.src).mono ?_
  rintro e w3 ⟨y, rfl, y0, y1, y2, hd3, hz3⟩
  have y1 := y1 (by omega)
  have hR3 := hR2.dw hd3 hlt
  have hd3 := hd2.trans hd3
  clear hz3 y2
  go_wp2_with fail
  refine (next_d B n b _ w3 hd3.src).mono ?_
  rintro e w4 ⟨z, rfl, z0, z1, z2, hd4, hz4⟩
  have z1 := z1 (by omega)
  have hR4 := hR3.dw hd4 hlt
  have hd4 := hd3.trans hd4
  clear hz4 z2
  go_wp2_with fail
  refine (pick_d B n b _ _ [x, y, z] _ w4 hd4.src rfl rfl rfl (by simp) (by simp)).mono ?_
  rintro e w5 ⟨t, rfl, ht, hd5, hz5⟩
  have ht : 0 ≤ t ∧ t ≤ 9 := by simp at ht; omega
  obtain ⟨t0, t9⟩ := ht
  have hR5 := hR4.dw hd5 hlt
  have hd5 := hd4.trans hd5
  clear hz5
  go_wp2_with fail
  refine (with_i B n b m (1 + t) (1 + t).toNat w5 hd5.src (by omega) (by omega)).mono ?_
  rintro e w6 ⟨m', v, xss, rfl, hO6, hl6, hd6⟩
  obtain ⟨o, c, rfl⟩ := hO6.shape
  have hR6 := hR5.dw hd6 hlt
  have hz6 := hd5.size
  have hd6 := hd5.trans hd6
  have HL := Lib.hid hl6
  clear hl6
  have hl0 := hR6.1.lt
  have hlw := hR0.1.lt
  have hz15 : w.heap.size < w5.heap.size := by have := hR5.1.lt; omega
  obtain ⟨⟨r0, r1⟩, rf⟩ := id hR6
  go_wp2_with fail
  refine bodyPost_ret (v := .agg #[.int .i64 m', .slice o xss.length c]) (by simp [results, Try.results213, go_sem, r0, r1]) rfl ⟨(1 + t).toNat + 1, ⟨by omega, by omega⟩, m', _, xss, rfl, ?_, HL.out, ?_⟩
  · exact ((hO6.low (by omega) _).low (by omega) _).mono (by omega)
  · exact (hd6.put (Nat.le_refl _) _ _).put (Nat.le_refl _) _ _
end Go.Proofs.Ytcjinlfgeljmkaa
