/- The laws' own helpers on tables and planes. -/
import Derived.Test.YtflebfmkgmhccaaTabA
set_option linter.unusedSimpArgs false
set_option linter.unusedVariables false
namespace Go.Proofs.Ytflebfmkgmhccaa
open Go.RowKit

set_option maxHeartbeats 400000 in
theorem szInt64SS_c (v : Value) (xss : List (List Int)) (left : Int) (w : World) (hv : RdT w v xss) (h0 : 0 ≤ left) (h1 : left ≤ 1048576) :
    Calls Try.prog 52 #[v, .int .i64 left] w fun e w' => e = .returned (.int .i64 (szV (sizeT xss) left)) ∧ w = w' := by
  obtain ⟨o, c, rfl, hm, -⟩ := id hv
  unfold maxLen at hm
  by_cases hneg : left - xss.length < 0
  · go_enter Try.func52, Try.ntmps52
    go_wp2
    go_ret
    exact ⟨by unfold szV sizeT; rw [if_pos (by omega)]; rfl, rfl⟩
  · go_enter Try.func52, Try.ntmps52
    go_wp2_with fail
    go_loop [1, 5] (fun l i => ∃ k : Nat, k ≤ xss.length ∧ i = .int .i64 k ∧ l = .int .i64 (left - xss.length - numT (xss.take k)) ∧ 0 ≤ left - xss.length - numT (xss.take k)) (fun _ i => xss.length - (intOf i).toNat)
    case atStart => exact ⟨0, Nat.zero_le _, rfl, by simp [numT], by simp [numT]; omega⟩
    case round =>
      obtain ⟨k, hk, rfl, rfl, hl⟩ := hrel
      by_cases hlt : k < xss.length
      · obtain ⟨b, off, rfl, -⟩ := hv.rows (by omega)
        obtain ⟨o', c', hx, hr⟩ := hv.row (show xss[k]? = some xss[k] by simp [hlt])
        have hrl := hr.len
        have hnt := numT_take xss k hlt
        have hnl := numT_le xss (k + 1)
        have HNT := Lib.hid hnt
        clear hnt
        by_cases hneg2 : szV xss[k].length (left - xss.length - numT (xss.take k)) < 0
        · have HE := Lib.hid (show szV (sizeT xss) left = -1 by
            have := HNT.out
            unfold szV at hneg2 ⊢
            unfold sizeT
            rw [if_pos]
            split at hneg2 <;> omega)
          go_wp2_with (go_at_call 71; refine (szInt64S_c _ _ _ _ _ hrl.2.1 hl (by omega)).mono ?_; rintro e w' ⟨rfl, rfl⟩)
          go_ret
          exact ⟨by rw [HE.out]; rfl, rfl⟩
        · have HE := Lib.hid (show szV xss[k].length (left - xss.length - numT (xss.take k)) = left - xss.length - numT (xss.take (k + 1)) ∧ 0 ≤ left - xss.length - numT (xss.take (k + 1)) by
            have := HNT.out
            unfold szV at hneg2 ⊢
            split at hneg2
            · omega
            · rename_i h; rw [if_neg h]; omega)
          go_wp2_with (go_at_call 71; refine (szInt64S_c _ _ _ _ _ hrl.2.1 hl (by omega)).mono ?_; rintro e w' ⟨rfl, rfl⟩)
          exact ⟨⟨k + 1, by omega, by go_num, by rw [HE.out.1], HE.out.2⟩, by simp [intOf]; omega⟩
      · obtain rfl : k = xss.length := by omega
        have HE := Lib.hid (show szV (sizeT xss) left = left - xss.length - numT (xss.take xss.length) by
          rw [List.take_length] at hl ⊢; unfold szV sizeT; rw [if_neg (by omega)]; omega)
        go_wp2
        go_ret
        exact ⟨by rw [HE.out, List.take_length]; rfl, rfl⟩

theorem szT_ok {xss : List (List Int)} {left : Int} (h : 0 ≤ szV (sizeT xss) left) (hl : left ≤ 1048576) : sizeT xss ≤ 1048576 ∧ szV (sizeT xss) left ≤ 1048576 ∧ 0 ≤ szV (sizeT xss) left := szV_ok h hl

set_option maxHeartbeats 400000 in
theorem toInt64SS_c (v : Value) (xss : List (List Int)) (w : World) (hv : RdT w v xss) (hn : sizeT xss ≤ 1048576) :
    Calls Try.prog 55 #[v] w fun e w' => ∃ v', e = .returned v' ∧ OwS w' w.heap.size v' xss ∧ Below w.heap.size w w' := by
  obtain ⟨o, c, rfl, hm, -⟩ := id hv
  unfold maxLen at hm
  have hnl : xss.length ≤ 1048576 := by unfold sizeT at hn; omega
  go_enter Try.func55, Try.ntmps55
  go_wp2_with (at_make; refine mkT _ rfl _ _ rfl _ _ _ xss.length rfl rfl rfl hnl ?_; intro w1 hown hb hs1)
  rw [← uptoT_0] at hown
  have hz : w.heap.size < w1.heap.size := by omega
  clear hs1
  go_loopw [4] (fun i wr => ∃ k : Nat, k ≤ xss.length ∧ i = .int .i64 k ∧ OwS wr w.heap.size (.slice (some ⟨w.heap.size, 0, none⟩) xss.length xss.length) (uptoT xss k) ∧ Below w.heap.size w wr) (fun i _ => xss.length - (intOf i).toNat)
  case atStart => exact ⟨0, Nat.zero_le _, rfl, hown, hb⟩
  case round =>
    obtain ⟨k, hk, rfl, hO, hB⟩ := hrel
    by_cases hlt : k < xss.length
    · have hvr := hv.below hB (Nat.le_refl _)
      obtain ⟨b, off, rfl, -⟩ := hvr.rows (by omega)
      obtain ⟨o', c', hx, hr⟩ := hvr.row (show xss[k]? = some xss[k] by simp [hlt])
      have hrow := row_le hlt
      obtain ⟨g, hg0, hgl, hgl'⟩ := hO.row (by omega)
      obtain rfl : w.heap.size = g := by simpa using hg0
      clear hg0
      have hBs := hB.size
      go_wp2_with (go_at_call 74; refine (toInt64S_c _ _ _ hr (by unfold sizeT at hn; omega)).mono ?_; rintro e w2 ⟨u', rfl, hou, hb2⟩; obtain ⟨ou, cu, rfl⟩ := hou.shape; have hO2 := hO.below hb2; obtain ⟨o3, c3, hc0, -, -⟩ := hO2.get (k := k) (row := []) (uptoT_get xss k hlt); have hf0 := hO2.fz k; have hP := Lib.hid (hO.putNew' hgl' hb2 k hou hBs); clear hO2)
      have hP' := hP.out
      rw [uptoT_set _ _ hlt] at hP'
      exact ⟨⟨k + 1, by omega, by go_num, hP', below_put (hB.trans (hb2.mono hBs)) (Nat.le_refl _) _⟩, by simp [intOf]; omega⟩
    · obtain rfl : k = xss.length := by omega
      rw [uptoT_all] at hO
      go_wp2
      go_ret
      exact ⟨_, rfl, hO, hB⟩

set_option maxHeartbeats 1000000 in
theorem eqInt64SS_c (v u : Value) (xss yss : List (List Int)) (w : World) (hv : RdT w v xss) (hu : RdT w u yss) :
    Calls Try.prog 58 #[v, u] w fun e w' => e = .returned (.bool (eqTB xss yss)) ∧ ∃ n, w' = w.drewN n := by
  obtain ⟨o, c, rfl, hm, -⟩ := id hv
  obtain ⟨o', c', rfl, hm', -⟩ := id hu
  unfold maxLen at hm hm'
  by_cases hlen : xss.length = yss.length
  · have hne : (((xss.length:Nat):Int) != ((yss.length:Nat):Int)) = false := by simp [hlen]
    have HL := Lib.hid hlen
    clear hlen
    go_enter Try.func58, Try.ntmps58
    go_wp2
    go_loopw [5] (fun i wr => ∃ k : Nat, k ≤ xss.length ∧ i = .int .i64 k ∧ Hid (xss.take k = yss.take k) ∧ ∃ n, wr = w.drewN n) (fun i _ => xss.length - (intOf i).toNat)
    case atStart => exact ⟨0, Nat.zero_le _, rfl, Lib.hid rfl, 0, rfl⟩
    case round =>
      obtain ⟨k, hk, rfl, HT, n, rfl⟩ := hrel
      by_cases hlt : k < xss.length
      · have hly : k < yss.length := by have := HL.out; omega
        obtain ⟨b, off, rfl, -⟩ := hv.rows (by omega)
        obtain ⟨b', off', rfl, -⟩ := hu.rows (by omega)
        obtain ⟨o1, c1, hx, hr⟩ := hv.row (show xss[k]? = some xss[k] by simp [hlt])
        obtain ⟨o2, c2, hy, hs⟩ := hu.row (show yss[k]? = some yss[k] by simp [hly])
        cases he : eqLB xss[k] yss[k]
        · go_wp2
          go_quiet ((go_at_call 19; (first | exact quietA (by rw [he]) (eqInt64S_c _ _ xss[k] yss[k] _ hr hs) | exact quietB (by rw [he]) (eqInt64S_c _ _ xss[k] yss[k] _ hr hs) | exact quietC (by rw [he]) (eqInt64S_c _ _ xss[k] yss[k] _ hr hs) | exact quietD (by rw [he]) (eqInt64S_c _ _ xss[k] yss[k] _ hr hs))))
          go_wp2
          go_ret
          exact ⟨by rw [eqTB_idx (k := k) (by simp [hlt]) (by simp [hly]) he]; rfl, n + nq, by simp⟩
        · go_wp2
          go_quiet ((go_at_call 19; (first | exact quietA (by rw [he]) (eqInt64S_c _ _ xss[k] yss[k] _ hr hs) | exact quietB (by rw [he]) (eqInt64S_c _ _ xss[k] yss[k] _ hr hs) | exact quietC (by rw [he]) (eqInt64S_c _ _ xss[k] yss[k] _ hr hs) | exact quietD (by rw [he]) (eqInt64S_c _ _ xss[k] yss[k] _ hr hs))))
          go_wp2
          exact ⟨⟨k + 1, by omega, by go_num, Lib.hid (takeT_eq (by simp [hlt]) (by simp [hly]) he HT.out), _, rfl⟩, by simp [intOf]; omega⟩
      · go_wp2
        go_ret
        exact ⟨by rw [eqTB_take HL.out hlt HT.out]; rfl, n, rfl⟩
  · have hne : (((xss.length:Nat):Int) != ((yss.length:Nat):Int)) = true := by simp; omega
    have HL := Lib.hid hlen
    clear hlen
    go_enter Try.func58, Try.ntmps58
    go_wp2
    go_ret
    exact ⟨by rw [eqTB_ne (fun h => HL.out (by rw [h]))]; rfl, 0, rfl⟩

set_option maxHeartbeats 1000000 in
theorem markInt64SS_c (v : Value) (xss : List (List Int)) (k0 : Int) (lo hi : Nat) (w : World) (hv : OwSR lo hi w v xss) (hn : sizeT xss ≤ 1048576) (h0 : 0 ≤ k0) (h1 : k0 ≤ 549755813888) :
    Calls Try.prog 59 #[v, .int .i64 k0] w fun e w' => e = .returned (.int .i64 (k0 + numT xss)) ∧ OwSR lo hi w' v (iotaT k0 xss) ∧ Chg lo hi w w' := by
  obtain ⟨o, c, rfl⟩ := hv.ow.shape
  have hnl : xss.length ≤ 1048576 := by unfold sizeT at hn; omega
  have hnt : numT xss ≤ 1048576 := by unfold sizeT at hn; omega
  go_enter Try.func59, Try.ntmps59
  go_wp2
  go_loopw [1, 5] (fun kk i wr => ∃ k : Nat, k ≤ xss.length ∧ i = .int .i64 k ∧ kk = .int .i64 (k0 + numT (xss.take k)) ∧ OwSR lo hi wr (.slice o xss.length c) (markedT xss k0 k) ∧ Chg lo hi w wr) (fun _ i _ => xss.length - (intOf i).toNat)
  case atStart => exact ⟨0, Nat.zero_le _, rfl, by simp [numT], by rw [markedT_0]; exact hv, Chg.refl _ _ _⟩
  case round =>
    obtain ⟨k, hk, rfl, rfl, hO, hC⟩ := hrel
    by_cases hlt : k < xss.length
    · obtain ⟨g, rfl, hgl, hgl'⟩ := hO.ow.row (by omega)
      obtain ⟨o', c', hx, how, hbl, hset⟩ := hO.at (markedT_get xss k0 k hlt)
      have hrow := row_le hlt
      have hnl2 := numT_le xss k
      have HNT := Lib.hid (numT_take xss k hlt)
      have HM := Lib.hid (markedT_set xss k0 k hlt)
      have HS := Lib.hid hset
      have HB := Lib.hid hbl
      clear hset hbl
      go_wp2_with (go_at_call 22; refine (markInt64S_c _ xss[k] _ lo _ how (by omega) (by omega) (by omega)).mono ?_; rintro e w2 ⟨rfl, ho2, hg2, hs2⟩; have hO2 := Lib.hid (HS.out w2 _ (iota_len _ _) hg2 ho2); have hC2 := Lib.hid (hC.trans (Chg.of_grown hg2 (fun b hb => ⟨(HB.out b hb).1, (HB.out b hb).2.1⟩))); clear hs2 hg2 ho2)
      have hO3 := hO2.out
      rw [HM.out] at hO3
      exact ⟨⟨k + 1, by omega, by go_num, by rw [HNT.out]; go_num, hO3, hC2.out⟩, by simp [intOf]; omega⟩
    · obtain rfl : k = xss.length := by omega
      rw [markedT_all] at hO
      go_wp2
      go_ret
      exact ⟨ret_int (by rw [List.take_length]), hO, hC⟩

set_option maxHeartbeats 1000000 in
theorem heldInt64SS_c (v : Value) (xss : List (List Int)) (k0 : Int) (w : World) (hv : RdT w v (iotaT k0 xss)) (hn : sizeT xss ≤ 1048576) (h0 : 0 ≤ k0) (h1 : k0 ≤ 549755813888) :
    Calls Try.prog 87 #[v, .int .i64 k0] w fun e w' => e = .returned (.int .i64 (k0 + numT xss)) ∧ ∃ d, w' = w.drewN d := by
  obtain ⟨o, c, rfl, hm, -⟩ := id hv
  rw [iotaT_len] at *
  unfold maxLen at hm
  have hnl : xss.length ≤ 1048576 := by unfold sizeT at hn; omega
  have hnt : numT xss ≤ 1048576 := by unfold sizeT at hn; omega
  go_enter Try.func87, Try.ntmps87
  go_wp2
  go_loopw [1, 5] (fun kk i wr => ∃ k : Nat, k ≤ xss.length ∧ i = .int .i64 k ∧ kk = .int .i64 (k0 + numT (xss.take k)) ∧ ∃ d, wr = w.drewN d) (fun _ i _ => xss.length - (intOf i).toNat)
  case atStart => exact ⟨0, Nat.zero_le _, rfl, by simp [numT], 0, rfl⟩
  case round =>
    obtain ⟨k, hk, rfl, rfl, d, rfl⟩ := hrel
    by_cases hlt : k < xss.length
    · obtain ⟨b, off, rfl, -⟩ := hv.rows (by rw [iotaT_len]; omega)
      obtain ⟨o', c', hx, hr⟩ := hv.row (iotaT_get k0 xss k hlt)
      rw [iota_len] at hx hr
      have hrow := row_le hlt
      have hnl2 := numT_le xss k
      have HNT := Lib.hid (numT_take xss k hlt)
      have hpos : ¬ k0 + (numT (xss.take k) : Int) + (xss[k].length : Int) < 0 := by omega
      go_wp2_with (go_at_call 23; refine (heldInt64S_c _ xss[k].length _ _ (show RdI (w.drewN d) _ _ from hr) (by omega) (by omega) (by omega)).mono ?_; rintro e w2 ⟨rfl, d2, rfl⟩)
      exact ⟨⟨k + 1, by omega, by go_num, by rw [HNT.out]; go_num, d + d2, by simp⟩, by simp [intOf]; omega⟩
    · obtain rfl : k = xss.length := by omega
      go_wp2
      go_ret
      exact ⟨ret_int (by rw [List.take_length]), d, rfl⟩

set_option maxHeartbeats 400000 in
theorem szPlane_c (m : Int) (v : Value) (xss : List (List Int)) (left : Int) (w : World) (hv : RdT w v xss) (h0 : 0 ≤ left) (h1 : left ≤ 1048576) :
    Calls Try.prog 15 #[.agg #[.int .i64 m, v], .int .i64 left] w fun e w' => e = .returned (.int .i64 (szV (sizeT xss) left)) ∧ Below w.heap.size w w' := by
  by_cases hneg : szV (sizeT xss) left < 0
  · have e1 : szV (sizeT xss) left = -1 := by unfold szV at hneg ⊢; split <;> simp_all
    have H1 := Lib.hid e1
    clear e1
    go_enter Try.func15, Try.ntmps15
    go_wp2_with (go_at_call 52; refine (szInt64SS_c _ xss _ _ (hv.below (by (repeat (first | exact Below.refl _ _ | (refine Below.setCell ?_ (by first | (simp; done) | (simp; omega) | omega) _) | (refine Below.alloc ?_ (by first | (simp; done) | (simp; omega) | omega) _) | (refine below_drewN ?_ _) | (refine Below.drew ?_)))) (Nat.le_refl _)) h0 h1).mono ?_; rintro e w' ⟨rfl, rfl⟩)
    go_ret
    exact ⟨by rw [H1.out]; rfl, ((Below.refl _ _).alloc (Nat.le_refl _) _)⟩
  · go_enter Try.func15, Try.ntmps15
    go_wp2_with (go_at_call 52; refine (szInt64SS_c _ xss _ _ (hv.below (by (repeat (first | exact Below.refl _ _ | (refine Below.setCell ?_ (by first | (simp; done) | (simp; omega) | omega) _) | (refine Below.alloc ?_ (by first | (simp; done) | (simp; omega) | omega) _) | (refine below_drewN ?_ _) | (refine Below.drew ?_)))) (Nat.le_refl _)) h0 h1).mono ?_; rintro e w' ⟨rfl, rfl⟩)
    go_ret
    exact ⟨rfl, ((Below.refl _ _).alloc (Nat.le_refl _) _)⟩

set_option maxHeartbeats 400000 in
theorem toPlane_c (m : Int) (v : Value) (xss : List (List Int)) (w : World) (hv : RdT w v xss) (hn : sizeT xss ≤ 1048576) :
    Calls Try.prog 17 #[.agg #[.int .i64 m, v]] w fun e w' => ∃ v', e = .returned (.agg #[.int .i64 m, v']) ∧ OwS w' w.heap.size v' xss ∧ Below w.heap.size w w' := by
  go_enter Try.func17, Try.ntmps17
  go_wp2_with fail
  refine (toInt64SS_c v xss _ (hv.below ((((Below.refl _ _).alloc (Nat.le_refl _) _).alloc (by simp) _).alloc (by simp; omega) _) (Nat.le_refl _)) hn).mono ?_
  rintro e w1 ⟨v', rfl, how, hb⟩
  obtain ⟨o1, c1, rfl⟩ := how.shape
  have How := Lib.hid how
  clear how
  obtain ⟨hc, hf⟩ := bcell hb
  have hz : w.heap.size + 2 < w1.heap.size := by have := hb.size; simp at this; omega
  go_wp2
  refine bodyPost_ret (v := .agg #[.int .i64 m, .slice o1 xss.length c1]) (by simp [results, Try.results17, go_sem, hc, hz]) rfl ⟨_, rfl, ?_, ?_⟩
  · exact ((((How.out.low (by first | (simp; done) | (simp; omega) | omega) _).low (by first | (simp; done) | (simp; omega) | omega) _).low (by first | (simp; done) | (simp; omega) | omega) _).mono (by first | (simp; done) | (simp; omega) | omega))
  · (repeat (first | exact Below.refl _ _ | (refine Below.setCell ?_ (by first | (simp; done) | (simp; omega) | omega) _) | (refine Below.alloc ?_ (by first | (simp; done) | (simp; omega) | omega) _) | (refine below_drewN ?_ _) | (refine Below.drew ?_) | (refine Below.trans ?_ (Below.mono hb (by first | (simp; done) | (simp; omega) | omega)))))

def eqPB (m : Int) (xss : List (List Int)) (n : Int) (yss : List (List Int)) : Bool := (m == n) && eqTB xss yss
theorem eqPB_self (m : Int) (xss : List (List Int)) : eqPB m xss m xss = true := by simp [eqPB, eqTB_self]

set_option maxHeartbeats 400000 in
theorem eqPlane_c (m n : Int) (v u : Value) (xss yss : List (List Int)) (w : World) (hv : RdT w v xss) (hu : RdT w u yss) :
    Calls Try.prog 20 #[.agg #[.int .i64 m, v], .agg #[.int .i64 n, u]] w fun e w' => e = .returned (.bool (eqPB m xss n yss)) ∧ Below w.heap.size w w' := by
  cases h2 : (m != n)
  · have e2 : (m == n) = true := by simpa using h2
    cases h3 : eqTB xss yss
    all_goals
      go_enter Try.func20, Try.ntmps20
      go_wp2_with (go_at_call 58; refine (eqInt64SS_c _ _ xss yss _ (hv.below ((by (repeat (first | exact Below.refl _ _ | (refine Below.setCell ?_ (by first | (simp; done) | (simp; omega) | omega) _) | (refine Below.alloc ?_ (by first | (simp; done) | (simp; omega) | omega) _) | (refine below_drewN ?_ _) | (refine Below.drew ?_))))) (Nat.le_refl _)) (hu.below ((by (repeat (first | exact Below.refl _ _ | (refine Below.setCell ?_ (by first | (simp; done) | (simp; omega) | omega) _) | (refine Below.alloc ?_ (by first | (simp; done) | (simp; omega) | omega) _) | (refine below_drewN ?_ _) | (refine Below.drew ?_))))) (Nat.le_refl _))).mono ?_; rintro e w1 ⟨rfl, d, rfl⟩; rw [h3])
      go_ret
      exact ⟨by simp [eqPB, e2, h3], (by (repeat (first | exact Below.refl _ _ | (refine Below.setCell ?_ (by first | (simp; done) | (simp; omega) | omega) _) | (refine Below.alloc ?_ (by first | (simp; done) | (simp; omega) | omega) _) | (refine below_drewN ?_ _) | (refine Below.drew ?_))))⟩
  · have e2 : (m == n) = false := by simpa using h2
    go_enter Try.func20, Try.ntmps20
    go_wp2
    go_ret
    exact ⟨by simp [eqPB, e2], (by (repeat (first | exact Below.refl _ _ | (refine Below.setCell ?_ (by first | (simp; done) | (simp; omega) | omega) _) | (refine Below.alloc ?_ (by first | (simp; done) | (simp; omega) | omega) _) | (refine below_drewN ?_ _) | (refine Below.drew ?_))))⟩

set_option maxHeartbeats 400000 in
theorem markPlane_c (m : Int) (v : Value) (xss : List (List Int)) (k0 : Int) (lo hi : Nat) (w : World) (hv : OwSR lo hi w v xss) (hh : hi ≤ w.heap.size) (hn : sizeT xss ≤ 1048576) (h0 : 0 ≤ k0) (h1 : k0 ≤ 549755813888) :
    Calls Try.prog 21 #[.agg #[.int .i64 m, v], .int .i64 k0] w fun e w' => e = .returned (.int .i64 (k0 + numT xss)) ∧ OwSR lo hi w' v (iotaT k0 xss) ∧ Chg lo hi w w' := by
  go_enter Try.func21, Try.ntmps21
  go_wp2_with (go_at_call 59; refine (markInt64SS_c _ xss k0 lo hi _ (hv.stay (fun k h1 h2 => Below.heap_alloc _ _ k (by omega))) hn h0 h1).mono ?_; rintro e w1 ⟨rfl, ho, hg⟩)
  go_ret
  exact ⟨rfl, ho, (Chg.of_below (by (repeat (first | exact Below.refl _ _ | (refine Below.setCell ?_ (by first | (simp; done) | (simp; omega) | omega) _) | (refine Below.alloc ?_ (by first | (simp; done) | (simp; omega) | omega) _) | (refine below_drewN ?_ _) | (refine Below.drew ?_))))).trans hg⟩

set_option maxHeartbeats 400000 in
theorem heldPlane_c (m : Int) (v : Value) (xss : List (List Int)) (k0 : Int) (w : World) (hv : RdT w v (iotaT k0 xss)) (hn : sizeT xss ≤ 1048576) (h0 : 0 ≤ k0) (h1 : k0 ≤ 549755813888) :
    Calls Try.prog 43 #[.agg #[.int .i64 m, v], .int .i64 k0] w fun e w' => e = .returned (.int .i64 (k0 + numT xss)) ∧ Below w.heap.size w w' := by
  have hpos : ¬ k0 + (numT xss : Int) < 0 := by omega
  go_enter Try.func43, Try.ntmps43
  go_wp2_with (go_at_call 87; refine (heldInt64SS_c _ xss k0 _ (hv.below ((by (repeat (first | exact Below.refl _ _ | (refine Below.setCell ?_ (by first | (simp; done) | (simp; omega) | omega) _) | (refine Below.alloc ?_ (by first | (simp; done) | (simp; omega) | omega) _) | (refine below_drewN ?_ _) | (refine Below.drew ?_))))) (Nat.le_refl _)) hn h0 h1).mono ?_; rintro e w1 ⟨rfl, d, rfl⟩)
  go_ret
  exact ⟨rfl, (by (repeat (first | exact Below.refl _ _ | (refine Below.setCell ?_ (by first | (simp; done) | (simp; omega) | omega) _) | (refine Below.alloc ?_ (by first | (simp; done) | (simp; omega) | omega) _) | (refine below_drewN ?_ _) | (refine Below.drew ?_))))⟩

end Go.Proofs.Ytflebfmkgmhccaa
