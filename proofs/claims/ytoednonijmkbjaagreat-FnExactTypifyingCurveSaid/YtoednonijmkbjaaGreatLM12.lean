/- Lemmas. -/
import Derived.Test.YtoednonijmkbjaaGreatLG3
import Derived.StillTailTactics
import Derived.Deep.DeepCutAuto
import Derived.Test.YtoednonijmkbjaaGreatLG1
import Derived.Test.YtoednonijmkbjaaGreatLM11
import Derived.Test.YtoednonijmkbjaaGreatLG15
import Derived.Test.YtoednonijmkbjaaGreatLM8
set_option linter.unusedSimpArgs false
set_option linter.unusedVariables false
namespace Go.Proofs.YtoednonijmkbjaaGreat
open Go.RowKit

set_option maxHeartbeats 400000 in
theorem l02Make_c (m : Int) (o : Option Addr) (n c : Nat) (w : World) :
    Calls Tryz.prog 29 #[.int .i64 m, .slice o n c] w fun e w' => e = .returned (.agg #[.int .i64 m, .slice o n c]) ∧ Below w.heap.size w w' := by
  go_enter Tryz.func29, Tryz.ntmps29
  go_wp2
  exact bodyPost_ret (v := .agg #[.int .i64 m, .slice o n c]) (by simp [results, Tryz.results29, go_sem]) rfl ⟨rfl, (by (repeat (first | exact bR _ _ | (refine bS ?_ _) | (refine bA ?_ _) | (refine bN ?_ _) | (refine bD ?_))))⟩

set_option maxHeartbeats 1000000 in
set_option maxRecDepth 100000 in
theorem l02Add_c (m : Int) (v u : Value) (xs ys : List Int) (w : World) (hv : RdI w v xs) (hu : RdI w u ys) (hl : xs.length ≤ ys.length) (hn : xs.length ≤ 1048576) (hm : 2 ≤ m) (hm' : m ≤ 1000000000000)
    (hx : ∀ x ∈ xs, 0 ≤ x ∧ x < m) (hy : ∀ x ∈ ys, 0 ≤ x ∧ x < m) :
    Calls Tryz.prog 122 #[.int .i64 m, v, u] w fun e w' => ∃ v', e = .returned v' ∧ OwI w' w.heap.size v' (addL m xs.length xs ys) ∧ Below w.heap.size w w' := by
  obtain ⟨o, c, rfl, hmx, -⟩ := id hv
  obtain ⟨o', c', rfl, hmy, -⟩ := id hu
  have hml := hmx.1
  unfold maxLen at hmx hmy
  have m0 : (m == 0) = false := by simp; omega
  have m1 : ¬ m = 0 := by omega
  go_enter Tryz.func122, Tryz.ntmps122
  go_wp2_with fail
  have O1 := OwI.lit w [] (by decide)
  have B1 : Below w.heap.size w (w.alloc (.cells #[] 2)) := (by (repeat (first | exact bR _ _ | (refine bS ?_ _) | (refine bA ?_ _) | (refine bN ?_ _) | (refine bD ?_))))
  simp at O1
  generalize w.alloc (.cells #[] 2) = w1 at O1 B1 ⊢
  go_loopw [7, 8] (fun s i wr => ∃ k : Nat, k ≤ xs.length ∧ i = .int .i64 k ∧ OwI wr w.heap.size s (mk k (fun j => (at0 xs j + at0 ys j) % m)) ∧ Below w.heap.size w wr) (fun _ i _ => xs.length - (intOf i).toNat)
  case atStart => exact ⟨0, Nat.zero_le _, rfl, O1, B1⟩
  case round =>
    obtain ⟨k, hk, rfl, hO, hB⟩ := hrel
    obtain ⟨ov, cv, rfl⟩ := hO.shapeN (n := k) (mk_len _ _)
    by_cases hlt : k < xs.length
    · obtain ⟨bx, fx, rfl, -⟩ := hv.cells (by omega)
      obtain ⟨by', fy, rfl, -⟩ := hu.cells (by omega)
      have cx := (hv.below hB (Nat.le_refl _)).cell0 (some_at0 hlt)
      have cy := (hu.below hB (Nat.le_refl _)).cell0 (some_at0 (show k < ys.length by omega))
      have hxk := at0_range (by omega) hx k
      have hyk := at0_range (by omega) hy k
      have hMod := mod_lt' (a := at0 xs k + at0 ys k) (show 0 < m by omega)
      have HS := Lib.hid (mk_snoc k (fun j => (at0 xs j + at0 ys j) % m))
      have hBs := hB.size
      have i0 : (0 : Int) ≤ (k : Int) := by omega
      have i1 : (k : Int) < (xs.length : Int) := by omega
      have i2 : (k : Int) < (ys.length : Int) := by omega
      go_wp2_with fail
      have e1 : IntKind.i64.wrap (at0 xs k + at0 ys k) = at0 xs k + at0 ys k := IntWalk.i64_in _ (by omega)
      have e2 : (at0 xs k + at0 ys k).tmod m = (at0 xs k + at0 ys k) % m := Int.tmod_eq_emod_of_nonneg (by omega)
      go_region_held3 (fun w' => w'.cell? ⟨bx, fx + k, none⟩ = some (.int .i64 (at0 xs k)) ∧ w'.cell? ⟨by', fy + k, none⟩ = some (.int .i64 (at0 ys k))) (go_keep)
        ((refine stI wr rfl _ _ rfl w.heap.size (.slice ov k cv) _ rfl hO _ rfl (by rw [mk_len]; omega) (by omega) ?_; intro v' w4 hO3 hb3; have cx2 := (hv.below (hB.trans hb3) (Nat.le_refl _)).cell0 (some_at0 hlt); have cy2 := (hu.below (hB.trans hb3) (Nat.le_refl _)).cell0 (some_at0 (show k < ys.length by omega))))
      rw [← HS.out] at hO3
      go_wp2
      exact ⟨⟨k + 1, by omega, by go_num, hO3, hB.trans hb3⟩, by simp [intOf]; omega⟩
    · obtain rfl : k = xs.length := by omega
      go_wp2
      go_ret
      exact ⟨_, rfl, hO, hB⟩

set_option maxHeartbeats 2000000 in
set_option maxRecDepth 100000 in
theorem l02Times_c (m d : Int) (n : Nat) (v u : Value) (xs ys : List Int) (w : World) (hd : d = (n : Int) - 1) (hv : RdI w v xs) (hu : RdI w u ys) (h1 : 1 ≤ n) (hn : n ≤ 1048576) (hm : 2 ≤ m) (hm' : m ≤ 3000000000)
    (hx : ∀ x ∈ xs, 0 ≤ x ∧ x < m) (hy : ∀ x ∈ ys, 0 ≤ x ∧ x < m) :
    Calls Tryz.prog 91 #[.int .i64 m, v, u, .int .i64 d] w fun e w' => ∃ v', e = .returned v' ∧ OwI w' w.heap.size v' (timesL m n xs ys) ∧ Below w.heap.size w w' := by
  subst hd
  obtain ⟨o, c, rfl, hmx, -⟩ := id hv
  obtain ⟨o', c', rfl, hmy, -⟩ := id hu
  unfold maxLen at hmx hmy
  have m0 : (m == 0) = false := by simp; omega
  have m1 : ¬ m = 0 := by omega
  go_enter Tryz.func91, Tryz.ntmps91
  go_wp2_with (at_make; refine mkI _ rfl _ _ rfl _ _ _ n rfl rfl (by omega) (by omega) ?_; intro w1 hown hb hs1)
  rw [tmS_0 m _ xs ys] at hown
  have hz : w.heap.size < w1.heap.size := by omega
  clear hs1
  go_loopw [10] (fun i wr => ∃ k : Nat, k ≤ n ∧ i = .int .i64 k ∧ OwI wr w.heap.size (.slice (some ⟨w.heap.size, 0, none⟩) n n) (tmS m n xs ys k 0) ∧ Below w.heap.size w wr) (fun i _ => n - (intOf i).toNat)
  case atStart => exact ⟨0, Nat.zero_le _, rfl, hown, hb⟩
  case round =>
    obtain ⟨k, hk, rfl, hO, hB⟩ := hrel
    obtain ⟨wo, rfl⟩ : ∃ wo : World, wo = wr := ⟨_, rfl⟩
    by_cases hlt : k < xs.length ∧ k < n
    · obtain ⟨hlt, hkn⟩ := hlt
      obtain ⟨bx, fx, rfl, -⟩ := hv.cells (by omega)
      have hxk := at0_range (by omega) hx k
      have i0 : (0 : Int) ≤ (k : Int) := by omega
      have i1 : (k : Int) < (xs.length : Int) := by omega
      have i2 : (k : Int) ≤ (n : Int) - 1 := by omega
      go_wp2_with fail
      go_loopw [11] (fun i w2 => ∃ j : Nat, j ≤ n - k ∧ i = .int .i64 j ∧ OwI w2 w.heap.size (.slice (some ⟨w.heap.size, 0, none⟩) n n) (tmS m n xs ys k j) ∧ Below w.heap.size w w2) (fun i _ => n - k - (intOf i).toNat)
      case atStart => exact ⟨0, Nat.zero_le _, rfl, hO, hB⟩
      case round =>
        obtain ⟨j, hj, rfl, hO2, hB2⟩ := hrel
        have cx := (hv.below hB2 (Nat.le_refl _)).cell0 (some_at0 hlt)
        by_cases hjl : j < ys.length ∧ k + j < n ∧ ¬ at0 xs k = 0
        · obtain ⟨hjl, hkj, hne⟩ := hjl
          have hne' : (at0 xs k != 0) = true := by simpa using hne
          obtain ⟨by', fy, rfl, -⟩ := hu.cells (by omega)
          have cy := (hu.below hB2 (Nat.le_refl _)).cell0 (some_at0 hjl)
          have hyk := at0_range (by omega) hy j
          have hc0 := hO2.cell (k := k + j) (mk_get hkj)
          have hf0 := hO2.fz (k + j)
          obtain ⟨hM0, hM1⟩ := prod_fits hxk.1 hyk.1 hxk.2 hyk.2 hm'
          have hC := mod_lt' (a := convP (at0 xs) (at0 ys) k j (k + j)) (show 0 < m by omega)
          have hMod := mod_lt' (a := convP (at0 xs) (at0 ys) k j (k + j) % m + at0 xs k * at0 ys j) (show 0 < m by omega)
          have Hn := Lib.hid hO2
          clear hO2
          have j0 : (0 : Int) ≤ (j : Int) := by omega
          have j1 : (j : Int) < (ys.length : Int) := by omega
          have j2 : (0 : Int) ≤ (k : Int) + (j : Int) := by omega
          have j3 : (k : Int) + (j : Int) < (n : Int) := by omega
          have j5 : (k : Int) + (j : Int) ≤ (n : Int) - 1 := by omega
          have j4 : ((k : Int) + (j : Int)).toNat = k + j := by omega
          have Hne := Lib.hid hne
          clear hne
          go_wp2_with fail
          have e0 : IntKind.i64.wrap ((k : Int) + (j : Int)) = (k : Int) + (j : Int) := IntWalk.i64_in _ (by omega)
          have e3 : IntKind.i64.wrap (at0 xs k * at0 ys j) = at0 xs k * at0 ys j := IntWalk.i64_in _ (by omega)
          have e1 : IntKind.i64.wrap (convP (at0 xs) (at0 ys) k j (k + j) % m + at0 xs k * at0 ys j) = convP (at0 xs) (at0 ys) k j (k + j) % m + at0 xs k * at0 ys j := IntWalk.i64_in _ (by omega)
          have e2 : (convP (at0 xs) (at0 ys) k j (k + j) % m + at0 xs k * at0 ys j).tmod m = (convP (at0 xs) (at0 ys) k j (k + j) % m + at0 xs k * at0 ys j) % m := Int.tmod_eq_emod_of_nonneg (by omega)
          go_still_tail 23, (by kernel_rfl)
          change wpList _ _ _ _ _ wr.drew
          go_wp2
          have h2 := OwI.put Hn.out (k + j) ((convP (at0 xs) (at0 ys) k j (k + j) + at0 xs k * at0 ys j) % m)
          rw [tmS_set2 rfl rfl] at h2
          exact ⟨⟨j + 1, by omega, by go_num, h2, (below_put hB2 (Nat.le_refl _) _).drew⟩, by simp [intOf]; omega⟩
        · have hrow : tmS m n xs ys k j = tmS m n xs ys (k + 1) 0 := tmS_row (by
            by_cases h1 : j < ys.length
            · by_cases h2 : k + j < n
              · exact .inr (.inr (Classical.byContradiction fun h3 => hjl ⟨h1, h2, h3⟩))
              · exact .inl (by omega)
            · exact .inr (.inl (by omega)))
          rw [hrow] at hO2
          clear hrow
          have i3 : ((k : Int) + (j : Int)) ≤ 2097152 := by omega
          by_cases h1 : j < ys.length
          · by_cases h2 : k + j < n
            · have h3 : at0 xs k = 0 := Classical.byContradiction fun h3 => hjl ⟨h1, h2, h3⟩
              have h3' : (at0 xs k != 0) = false := by simpa using h3
              have j5 : (k : Int) + (j : Int) ≤ (n : Int) - 1 := by omega
              clear hjl h3
              go_wp2
              exact ⟨⟨k + 1, by omega, by go_num, hO2, hB2⟩, by simp [intOf]; omega⟩
            · have j5 : ¬ (k : Int) + (j : Int) ≤ (n : Int) - 1 := by omega
              clear hjl
              go_wp2
              exact ⟨⟨k + 1, by omega, by go_num, hO2, hB2⟩, by simp [intOf]; omega⟩
          · clear hjl
            go_wp2
            exact ⟨⟨k + 1, by omega, by go_num, hO2, hB2⟩, by simp [intOf]; omega⟩
    · rw [tmS_all (by omega)] at hO
      by_cases h1 : k < xs.length
      · have h2 : ¬ (k : Int) ≤ (n : Int) - 1 := by omega
        clear hlt
        go_wp2
        go_ret
        exact ⟨_, rfl, hO, hB⟩
      · clear hlt
        go_wp2
        go_ret
        exact ⟨_, rfl, hO, hB⟩

end Go.Proofs.YtoednonijmkbjaaGreat
set_option linter.unusedSimpArgs false
set_option linter.unusedVariables false
namespace Go.Proofs.YtoednonijmkbjaaGreat
open Go.RowKit

set_option maxHeartbeats 1000000 in
set_option maxRecDepth 100000 in
theorem l03Zero_c (d : Int) (n : Nat) (w : World) (hd : d = (n : Int) - 1) (hn : n ≤ 1000) :
    Calls Tryz.prog 79 #[.int .i64 d] w fun e w' => ∃ v', e = .returned v' ∧ OwS w' w.heap.size v' (zeroT n) ∧ Below w.heap.size w w' := by
  subst hd
  go_enter Tryz.func79, Tryz.ntmps79
  go_wp2_with fail
  have O1 := OwS.lit0 w
  have B1 : Below w.heap.size w (w.alloc (.cells #[] 26)) := (by (repeat (first | exact bR _ _ | (refine bS ?_ _) | (refine bA ?_ _) | (refine bN ?_ _) | (refine bD ?_))))
  generalize w.alloc (.cells #[] 26) = w1 at O1 B1 ⊢
  go_loopw [3, 4] (fun s i wr => ∃ (k : Nat) (ov : Option Addr) (cv : Nat), k ≤ n ∧ i = .int .i64 k ∧ s = .slice ov k cv ∧ OwS wr w.heap.size (.slice ov k cv) (zeroRows n k) ∧ Below w.heap.size w wr) (fun _ i _ => n - (intOf i).toNat)
  case atStart => exact ⟨0, _, _, Nat.zero_le _, rfl, rfl, O1, B1⟩
  case round =>
    obtain ⟨k, ov, cv, hk, rfl, rfl, hO, hB⟩ := hrel
    by_cases hlt : k < n
    · have i1 : (k : Int) ≤ (n : Int) - 1 := by omega
      have hBs := hB.size
      have HS := Lib.hid (zeroRows_snoc n k)
      have HLn := Lib.hid (zeroRows_len n k)
      generalize zeroRows n k = l at hO HS HLn
      go_wp2_with (first
        | (at_make; go_loud (refine mkI _ rfl _ _ rfl _ _ _ (n - k) rfl rfl (by omega) (by omega) ?_; intro w2 how hb2 hs2; have hz2 : wr.heap.size < w2.heap.size := (by omega); clear hs2))
        | (at_builtin; obtain ⟨W, hW⟩ : ∃ W : World, W = w2.alloc (.cells #[.slice (some ⟨wr.heap.size, 0, none⟩) (n - k) (n - k)] 26) := ⟨_, rfl⟩; have hWs : W.heap.size = w2.heap.size + 1 := (by rw [hW]; simp); have hT : OwSR w.heap.size wr.heap.size W (.slice ov k cv) l := (by rw [hW]; exact hO.toR.stay (fun j _ hj => (Below.heap_alloc _ _ j (by omega)).trans (hb2.block j hj))); have hU : OwI W wr.heap.size (.slice (some ⟨wr.heap.size, 0, none⟩) (n - k) (n - k)) (List.replicate (n - k) 0) := (by rw [hW]; exact how.alloc _); have hC : W.cell? ⟨w2.heap.size, 0, none⟩ = some (.slice (some ⟨wr.heap.size, 0, none⟩) (n - k) (n - k)) := (by rw [hW]; simp); have B3 : Below w.heap.size w W := (by rw [hW]; exact hB.trans ((((Below.refl wr.heap.size wr).trans hb2).alloc (Nat.le_of_lt hz2) _).mono hBs)); rw [← hW]; have HW := Lib.hid hW; clear hW; go_loud (refine apT W rfl _ _ rfl w.heap.size wr.heap.size (.slice ov k cv) l rfl hT (by omega) hBs _ _ w2.heap.size rfl hC hU (by rw [HLn.out]; omega) ?_; intro g cap w3 hO3 hgr hb3; clear hgr; have B4 := B3.trans hb3)))
      rw [HLn.out, ← HS.out] at hO3
      exact ⟨⟨k + 1, _, _, by omega, by go_num, by rw [HLn.out], hO3, B4⟩, by simp [intOf]; omega⟩
    · obtain rfl : k = n := by omega
      have i1 : ¬ (k : Int) ≤ (k : Int) - 1 := by omega
      rw [zeroRows_all] at hO
      go_wp2
      go_ret
      exact ⟨_, rfl, hO, hB⟩

set_option maxHeartbeats 1000000 in
set_option maxRecDepth 100000 in
theorem l03Add_c (m : Int) (v u : Value) (xss yss : List (List Int)) (w : World) (hv : RdT w v xss) (hu : RdT w u yss) (hm : 2 ≤ m) (hm' : m ≤ 1000000000000) (hn : xss.length ≤ 1000) (hl : yss.length = xss.length)
    (hx : ∀ i (hi : i < xss.length), xss[i].length = xss.length - i ∧ ∀ x ∈ xss[i], 0 ≤ x ∧ x < m) (hy : ∀ i (hi : i < yss.length), yss[i].length = yss.length - i ∧ ∀ x ∈ yss[i], 0 ≤ x ∧ x < m) :
    Calls Tryz.prog 84 #[.int .i64 m, v, u] w fun e w' => ∃ v', e = .returned v' ∧ OwS w' w.heap.size v' (addT m xss.length xss yss) ∧ Below w.heap.size w w' := by
  obtain ⟨o, c, rfl, hmx, -⟩ := id hv
  obtain ⟨o', c', rfl, hmy, -⟩ := id hu
  unfold maxLen at hmx hmy
  have HL := Lib.hid hl
  have HX := Lib.hid hx
  have HY := Lib.hid hy
  clear hl hx hy
  go_enter Tryz.func84, Tryz.ntmps84
  go_wp2_with fail
  have O1 := OwS.lit0 w
  have B1 : Below w.heap.size w (w.alloc (.cells #[] 26)) := (by (repeat (first | exact bR _ _ | (refine bS ?_ _) | (refine bA ?_ _) | (refine bN ?_ _) | (refine bD ?_))))
  generalize w.alloc (.cells #[] 26) = w1 at O1 B1 ⊢
  go_loopw [7, 8] (fun s i wr => ∃ (k : Nat) (ov : Option Addr) (cv : Nat), k ≤ xss.length ∧ i = .int .i64 k ∧ s = .slice ov k cv ∧ OwS wr w.heap.size (.slice ov k cv) ((List.range k).map (fun i => mk (xss.length - i) ((fun i j => (atT xss i j + atT yss i j) % m) i))) ∧ Below w.heap.size w wr) (fun _ i _ => xss.length - (intOf i).toNat)
  case atStart => exact ⟨0, _, _, Nat.zero_le _, rfl, rfl, O1, B1⟩
  case round =>
    obtain ⟨k, ov, cv, hk, rfl, rfl, hO, hB⟩ := hrel
    by_cases hlt : k < xss.length
    · have hly : k < yss.length := by have := HL.out; omega
      have hxl := (HX.out k hlt).1
      have hyl := (HY.out k hly).1
      have HE := Lib.hid (show addL m xss[k].length xss[k] yss[k] = mk (xss.length - k) (fun j => (atT xss k j + atT yss k j) % m) by
        unfold addL; rw [hxl]; exact mk_ext fun j _ => by rw [atT_row hlt, atT_row hly])
      have hrl : xss[k].length ≤ yss[k].length := by rw [hxl, hyl, HL.out]; exact Nat.le_refl _
      have hrn : xss[k].length ≤ 1000 := by omega
      have HEl := Lib.hid (addL_len m xss[k].length xss[k] yss[k])
      clear hxl hyl
      obtain ⟨bx, fx, rfl, -⟩ := hv.rows (by omega)
      obtain ⟨by', fy, rfl, -⟩ := hu.rows (by omega)
      obtain ⟨o1, c1, cx0, rx0⟩ := hv.row (show xss[k]? = some xss[k] by simp [hlt])
      obtain ⟨o2, c2, cy0, ry0⟩ := hu.row (show yss[k]? = some yss[k] by simp [hly])
      have cx := keep_cell hB (Nat.le_refl _) cx0
      have cy := keep_cell hB (Nat.le_refl _) cy0
      have rx := rx0.below hB (Nat.le_refl _)
      have ry := ry0.below hB (Nat.le_refl _)
      have hBs := hB.size
      have hclx := cell_lt cx
      have hcly := cell_lt cy
      have HS := Lib.hid (tri_snoc_rows xss.length k (fun i j => (atT xss i j + atT yss i j) % m))
      have HLn := Lib.hid (show ((List.range k).map (fun i => mk (xss.length - i) ((fun i j => (atT xss i j + atT yss i j) % m) i))).length = k by simp)
      generalize (List.range k).map (fun i => mk (xss.length - i) ((fun i j => (atT xss i j + atT yss i j) % m) i)) = l at hO HS HLn
      have i0 : (0 : Int) ≤ (k : Int) := by omega
      have i1 : (k : Int) < (xss.length : Int) := by omega
      have i2 : (k : Int) < (yss.length : Int) := by omega
      go_wp2_with fail
      go_region_held3 (fun w' => w'.cell? ⟨bx, fx + k, none⟩ = some (.slice o1 xss[k].length c1) ∧ w'.cell? ⟨by', fy + k, none⟩ = some (.slice o2 yss[k].length c2)) (go_keep)
        (first
          | (go_at_call 122; refine (l02Add_c m _ _ xss[k] yss[k] _ (rx.below (Below.refl _ _).drew (Nat.le_refl _)) (ry.below (Below.refl _ _).drew (Nat.le_refl _)) hrl (by omega) hm hm' (HX.out k hlt).2 (HY.out k hly).2).mono ?_; rintro e w2 ⟨va, rfl, how, hb2⟩; obtain ⟨oa, ca, rfl⟩ := how.shapeN (n := xss[k].length) HEl.out; have hb2' : Below wr.heap.size wr w2 := ((Below.refl wr.heap.size wr).drew).trans hb2; have how' : OwI w2 wr.heap.size (.slice oa xss[k].length ca) (addL m xss[k].length xss[k] yss[k]) := how; have hz2 := hb2'.size; have cx2 := keep_cell hb2' (Nat.le_refl _) cx; have cy2 := keep_cell hb2' (Nat.le_refl _) cy)
          | (have hq2 := hz2; (obtain ⟨W, hW⟩ : ∃ W : World, W = w2.alloc (.cells #[.slice oa xss[k].length ca] 26) := ⟨_, rfl⟩); have hWs : W.heap.size = w2.heap.size + 1 := (by rw [hW]; simp); have hT : OwSR w.heap.size wr.heap.size W (.slice ov k cv) l := (by rw [hW]; exact hO.toR.stay (fun j _ hj => (Below.heap_alloc _ _ j (by omega)).trans (hb2'.block j hj))); have hU : OwI W wr.heap.size (.slice oa xss[k].length ca) (addL m xss[k].length xss[k] yss[k]) := (by rw [hW]; exact how'.alloc _); have hC : W.cell? ⟨w2.heap.size, 0, none⟩ = some (.slice oa xss[k].length ca) := (by rw [hW]; simp); have B3 : Below w.heap.size w W := (by rw [hW]; exact hB.trans ((((Below.refl wr.heap.size wr).trans hb2').alloc hz2 _).mono hBs)); rw [← hW]; have HW := Lib.hid hW; clear hW; refine stT W rfl _ _ rfl w.heap.size wr.heap.size (.slice ov k cv) l rfl hT (by omega) hBs _ _ w2.heap.size rfl hC hU (by rw [HLn.out]; omega) ?_; intro g cap w3 hO3 hgr hb3; clear hgr; have B4 := B3.trans hb3; have cx3 := keep_cell B4 (Nat.le_refl _) cx0; have cy3 := keep_cell B4 (Nat.le_refl _) cy0)
          | fail)
      rw [HE.out, HLn.out, ← HS.out] at hO3
      go_wp2
      exact ⟨⟨k + 1, _, _, by omega, by go_num, by rw [HLn.out], hO3, B4⟩, by simp [intOf]; omega⟩
    · obtain rfl : k = xss.length := by omega
      go_wp2
      go_ret
      exact ⟨_, rfl, hO, hB⟩

end Go.Proofs.YtoednonijmkbjaaGreat
set_option linter.unusedSimpArgs false
set_option linter.unusedVariables false
namespace Go.Proofs.YtoednonijmkbjaaGreat
open Go.RowKit

set_option maxHeartbeats 4000000 in
set_option maxRecDepth 100000 in
theorem l03Times_c (m : Int) (n : Nat) (v u : Value) (xss yss : List (List Int)) (w : World) (hv : RdT w v xss) (hu : RdT w u yss) (h1 : 1 ≤ n) (hn : n ≤ 1000) (hm : 2 ≤ m) (hm' : m ≤ 3000000000)
    (hx : PlaT m n xss) (hy : PlaT m n yss) :
    Calls Tryz.prog 124 #[.int .i64 m, v, u] w fun e w' => ∃ v', e = .returned v' ∧ OwS w' w.heap.size v' (timesT m n xss yss) ∧ Below w.heap.size w w' := by
  obtain ⟨o, c, rfl, hmx, -⟩ := id hv
  obtain ⟨o', c', rfl, hmy, -⟩ := id hu
  rw [hx.1] at hmx ⊢
  rw [hy.1] at hmy ⊢
  unfold maxLen at hmx hmy
  have hv' : RdT w (.slice o n c) xss := by rw [hx.1] at hv; exact hv
  have hu' : RdT w (.slice o' n c') yss := by rw [hy.1] at hu; exact hu
  clear hv hu
  have HX := Lib.hid hx
  have HY := Lib.hid hy
  have hxl := hx.1
  have hyl := hy.1
  clear hx hy
  obtain ⟨bx, fx, rfl, -⟩ := hv'.rows (by omega)
  obtain ⟨by', fy, rfl, -⟩ := hu'.rows (by omega)
  clear hxl hyl
  have m0 : (m == 0) = false := by simp; omega
  have m1 : ¬ m = 0 := by omega
  go_enter Tryz.func124, Tryz.ntmps124
  go_wp2_with (go_at_call 79; refine (l03Zero_c ((n : Int) - 1) n _ rfl hn).mono ?_; rintro e w2 ⟨vz, rfl, how, B2⟩; obtain ⟨oz, cz, rfl⟩ := how.shapeN (n := n) (zeroT_len n))
  have how := how.toR
  obtain ⟨hi, hhi⟩ : ∃ hi, w2.heap.size = hi := ⟨_, rfl⟩
  rw [hhi] at how
  obtain ⟨us, how⟩ := how.named
  obtain ⟨g, rfl, hgl, hgl'⟩ := how.row h1
  rw [tmT_0 m n xss yss] at how
  have B2s := B2.size
  go_loopw [9] (fun s wr => ∃ i : Nat, i ≤ n ∧ s = .int .i64 i ∧ OwSU us w.heap.size hi wr (.slice (some ⟨g, 0, none⟩) n cz) (tmT m n xss yss i 0 0 0) ∧ Chg w.heap.size hi w2 wr) (fun i _ => n - (intOf i).toNat)
  case atStart => exact ⟨0, Nat.zero_le _, rfl, how, Chg.refl _ _ _⟩
  case round =>
    obtain ⟨i, hi', rfl, hO, hC⟩ := hrel
    by_cases hlt : i < n
    · obtain ⟨r1, hr1, hl1, hj1⟩ := HX.out.row hlt
      obtain ⟨p1, q1, cx0, rx0⟩ := hv'.row hr1
      rw [hl1] at cx0 rx0
      obtain ⟨b1, f1, rfl, -⟩ := rx0.cells (by omega)
      have i0 : (0 : Int) ≤ (i : Int) := by omega
      have i1 : (i : Int) < (n : Int) := by omega
      have HJ := Lib.hid hj1
      clear hr1 hl1 hj1
      go_wp2_with fail
      go_loopw [10] (fun s wr => ∃ j : Nat, j ≤ n - i ∧ s = .int .i64 j ∧ OwSU us w.heap.size hi wr (.slice (some ⟨g, 0, none⟩) n cz) (tmT m n xss yss i j 0 0) ∧ Chg w.heap.size hi w2 wr) (fun i' _ => n - i - (intOf i').toNat)
      case atStart => exact ⟨0, Nat.zero_le _, rfl, hO, hC⟩
      case round =>
        obtain ⟨j, hj, rfl, hO, hC⟩ := hrel
        have Br := hC.below B2 (by omega) B2s
        by_cases hjl : j < n - i
        · have ex := (rx0.below Br (Nat.le_refl _)).cell0 (HJ.out j hjl)
          have cx := keep_cell Br (Nat.le_refl _) cx0
          obtain ⟨-, -, -, -, hxa, hxb⟩ := HX.out.at (i := i) (j := j) (by omega)
          have j0 : (0 : Int) ≤ (j : Int) := by omega
          have j1 : (j : Int) < ((n - i : Nat) : Int) := by omega
          have j2 : (i : Int) + (j : Int) < (n : Int) := by omega
          cases hx0 : (atT xss i j == 0)
          · go_wp2_with fail
            clear ex cx
            go_loopw [11] (fun s wr => ∃ k : Nat, k ≤ n - i - j ∧ s = .int .i64 k ∧ OwSU us w.heap.size hi wr (.slice (some ⟨g, 0, none⟩) n cz) (tmT m n xss yss i j k 0) ∧ Chg w.heap.size hi w2 wr) (fun i' _ => n - i - j - (intOf i').toNat)
            case atStart => exact ⟨0, Nat.zero_le _, rfl, hO, hC⟩
            case round =>
              obtain ⟨k, hk, rfl, hO, hC⟩ := hrel
              have Br := hC.below B2 (by omega) B2s
              by_cases hkl : k < n - i - j
              · obtain ⟨r2, hr2, hl2, hj2⟩ := HY.out.row (show k < n by omega)
                obtain ⟨p2, q2, cy0, ry0⟩ := hu'.row hr2
                rw [hl2] at cy0 ry0
                obtain ⟨b2, f2, rfl, -⟩ := ry0.cells (by omega)
                have cy := keep_cell Br (Nat.le_refl _) cy0
                have HJ2 := Lib.hid hj2
                clear hr2 hl2 hj2 cy0
                obtain ⟨o3, c3, hu3, cx3, how3, hbl3, -⟩ := hO.at (tmT_row' (show i + k < n by omega))
                rw [tmTr_len] at hu3 cx3 how3 hbl3
                obtain ⟨gr, rfl, hgr1, hgr2⟩ := how3.row (by omega)
                have hgr3 := hbl3 gr rfl
                have HU3 := Lib.hid hu3
                clear how3 hbl3 hu3
                have k0 : (0 : Int) ≤ (k : Int) := by omega
                have k1 : (k : Int) < (n : Int) := by omega
                have k2 : (i : Int) + (j : Int) + (k : Int) < (n : Int) := by omega
                have k3 : (0 : Int) ≤ (i : Int) + (k : Int) := by omega
                have k4 : (i : Int) + (k : Int) < (n : Int) := by omega
                have k5 : ((i : Int) + (k : Int)).toNat = i + k := by omega
                go_wp2_with fail
                have e0 : IntKind.i64.wrap ((i : Int) + (k : Int)) = (i : Int) + (k : Int) := IntWalk.i64_in _ (by omega)
                go_quiet (fail)
                clear cy cx3 e0
                go_wp2_with fail
                go_loopw [14] (fun s wr => ∃ l : Nat, l ≤ n - i - j - k ∧ s = .int .i64 l ∧ OwSU us w.heap.size hi wr (.slice (some ⟨g, 0, none⟩) n cz) (tmT m n xss yss i j k l) ∧ Chg w.heap.size hi w2 wr) (fun i' _ => n - i - j - k - (intOf i').toNat)
                case atStart => exact ⟨0, Nat.zero_le _, rfl, hO, hC.drewN _⟩
                case round =>
                  obtain ⟨l, hl, rfl, hO, hC⟩ := hrel
                  have Br := hC.below B2 (by omega) B2s
                  by_cases hll : l < n - i - j - k
                  · have ey := (ry0.below Br (Nat.le_refl _)).cell0 (HJ2.out l (by omega))
                    have ex := (rx0.below Br (Nat.le_refl _)).cell0 (HJ.out j hjl)
                    have cx := keep_cell Br (Nat.le_refl _) cx0
                    obtain ⟨-, -, -, -, hya, hyb⟩ := HY.out.at (i := k) (j := l) (by omega)
                    obtain ⟨o4, c4, hu4, -, how3, -, hset3⟩ := hO.at (tmT_row' (show i + k < n by omega))
                    rw [tmTr_len] at hu4 how3 hset3
                    obtain ⟨rfl, rfl⟩ : some ⟨gr, 0, none⟩ = o4 ∧ c3 = c4 := by rw [HU3.out] at hu4; simpa using hu4
                    have hc0 := how3.cell (k := j + l) (tmTr_get (show i + k + (j + l) < n by omega))
                    have hf0 := how3.fz (j + l)
                    have hN := Lib.hid how3
                    have hS := Lib.hid hset3
                    clear how3 hset3 hu4
                    have l0 : (0 : Int) ≤ (l : Int) := by omega
                    have l1 : (l : Int) < ((n - k : Nat) : Int) := by omega
                    have l2 : (i : Int) + (j : Int) + (k : Int) + (l : Int) < (n : Int) := by omega
                    have l5 : (0 : Int) ≤ (j : Int) + (l : Int) := by omega
                    have l6 : (j : Int) + (l : Int) < ((n - (i + k) : Nat) : Int) := by omega
                    have l7 : ((j : Int) + (l : Int)).toNat = j + l := by omega
                    obtain ⟨hM0, hM1⟩ := prod_fits hxa hya hxb hyb hm'
                    have hCm := mod_lt' (a := c2P n (atT xss) (atT yss) i j k l (i + k) (j + l)) (show 0 < m by omega)
                    have hMod := mod_lt' (a := c2P n (atT xss) (atT yss) i j k l (i + k) (j + l) % m + atT xss i j * atT yss k l) (show 0 < m by omega)
                    go_wp2_with fail
                    have e0 : IntKind.i64.wrap ((j : Int) + (l : Int)) = (j : Int) + (l : Int) := IntWalk.i64_in _ (by omega)
                    have e3 : IntKind.i64.wrap (atT xss i j * atT yss k l) = atT xss i j * atT yss k l := IntWalk.i64_in _ (by omega)
                    have e1 : IntKind.i64.wrap (c2P n (atT xss) (atT yss) i j k l (i + k) (j + l) % m + atT xss i j * atT yss k l) = c2P n (atT xss) (atT yss) i j k l (i + k) (j + l) % m + atT xss i j * atT yss k l := IntWalk.i64_in _ (by omega)
                    have e2 : (c2P n (atT xss) (atT yss) i j k l (i + k) (j + l) % m + atT xss i j * atT yss k l).tmod m = (c2P n (atT xss) (atT yss) i j k l (i + k) (j + l) % m + atT xss i j * atT yss k l) % m := Int.tmod_eq_emod_of_nonneg (by omega)
                    go_still_tail 26, (by kernel_rfl)
                    change wpList _ _ _ _ _ wr.drew
                    have HE := Lib.hid (show (c2P n (atT xss) (atT yss) i j k l (i + k) (j + l) % m + atT xss i j * atT yss k l) % m = (c2P n (atT xss) (atT yss) i j k l (i + k) (j + l) + atT xss i j * atT yss k l) % m by rw [Int.add_emod, Int.emod_emod_of_dvd _ (Int.dvd_refl m), ← Int.add_emod])
                    have hg0 := gr_put (gr_drewN (World.grownBy.refl wr (some gr)) 1) (j + l) (.int .i64 ((c2P n (atT xss) (atT yss) i j k l (i + k) (j + l) % m + atT xss i j * atT yss k l) % m))
                    have hOn := hS.out _ _ (by rw [List.length_set, tmTr_len]) hg0 ((hN.out.drewN 1).put (j + l) _)
                    have hCn := hC.grown hg0 hgr3.1 hgr3.2.1
                    rw [HE.out, tmT_set (by omega)] at hOn
                    rw [HE.out] at hCn
                    go_wp2
                    exact ⟨⟨l + 1, by omega, by go_num, hOn, hCn⟩, by simp [intOf]; omega⟩
                  · obtain rfl : l = n - i - j - k := by omega
                    rw [tmT_row (by omega)] at hO
                    have l2 : ¬ (i : Int) + (j : Int) + (k : Int) + ((n - i - j - k : Nat) : Int) < (n : Int) := by omega
                    go_wp2
                    exact ⟨⟨k + 1, by omega, by go_num, hO, hC⟩, by simp [intOf]; omega⟩
              · obtain rfl : k = n - i - j := by omega
                rw [tmT_place (.inl (by omega))] at hO
                have k2 : ¬ (i : Int) + (j : Int) + ((n - i - j : Nat) : Int) < (n : Int) := by omega
                go_wp2
                exact ⟨⟨j + 1, by omega, by go_num, hO, hC⟩, by simp [intOf]; omega⟩
          · rw [tmT_place (.inr (by simpa using hx0))] at hO
            go_wp2
            exact ⟨⟨j + 1, by omega, by go_num, hO, hC⟩, by simp [intOf]; omega⟩
        · obtain rfl : j = n - i := by omega
          rw [tmT_line rfl] at hO
          have j2 : ¬ (i : Int) + ((n - i : Nat) : Int) < (n : Int) := by omega
          go_wp2
          exact ⟨⟨i + 1, by omega, by go_num, hO, hC⟩, by simp [intOf]; omega⟩
    · obtain rfl : i = n := by omega
      rw [tmT_all] at hO
      have Br := hC.below B2 (by omega) B2s
      go_wp2
      go_ret
      exact ⟨_, rfl, hO.r.ow, Br⟩

end Go.Proofs.YtoednonijmkbjaaGreat
set_option linter.unusedSimpArgs false
set_option linter.unusedVariables false
namespace Go.Proofs.YtoednonijmkbjaaGreat
open Go.RowKit

set_option maxHeartbeats 1000000 in
theorem l09Three_c (v : Value) (ls : List Int) (w : World) (hv : RdI w v ls) (hl : ls.length ≤ 3) :
    Calls Tryz.prog 78 #[v] w fun e w' => ∃ v', e = .returned v' ∧ OwI w' w.heap.size v' (ls ++ List.replicate (3 - ls.length) 0) ∧ Below w.heap.size w w' := by
  obtain ⟨o, c, rfl, hmx, -⟩ := id hv
  go_enter Tryz.func78, Tryz.ntmps78
  go_wp2_with fail
  refine (l01OwnA_c _ ls _ hv (by omega)).mono ?_
  rintro e w1 ⟨gc, cc, rfl, hO, hB⟩
  go_wp2_with fail
  go_loopw [3] (fun s wr => ∃ k : Nat, ls.length + k ≤ 3 ∧ OwI wr w.heap.size s (ls ++ List.replicate k 0) ∧ Below w.heap.size w wr) (fun s _ => 3 - (match s with | .slice _ n _ => n | _ => 0))
  case atStart => exact ⟨0, by omega, by simpa using hO, hB⟩
  case round =>
    clear hO hB
    obtain ⟨k, hk, hO, hB⟩ := hrel
    obtain ⟨ov, cv, rfl⟩ := hO.shapeN (n := ls.length + k) (by simp)
    have hBs := hB.size
    have HS := Lib.hid (show ls ++ List.replicate (k + 1) (0 : Int) = ls ++ List.replicate k 0 ++ [0] by rw [List.replicate_succ', List.append_assoc])
    have HL := Lib.hid (show (ls ++ List.replicate k (0 : Int)).length = ls.length + k by simp)
    have HE := Lib.hid (show ls.length + k = 3 → ls ++ List.replicate k (0 : Int) = ls ++ List.replicate (3 - ls.length) 0 from fun h => by rw [show 3 - ls.length = k by omega])
    generalize ls ++ List.replicate k (0 : Int) = l at hO HS HL HE
    have HK := Lib.hid hk
    generalize hN : ls.length + k = N at HK HL HE hk hO ⊢
    by_cases hlt : N < 3
    · have i1 : (N : Int) < 3 := by omega
      go_wp2_with (at_builtin; refine apI wr rfl _ _ rfl w.heap.size (.slice ov N cv) _ rfl hO _ rfl (by rw [HL.out]; omega) (by omega) ?_; intro v' w4 hO3 hgr hb3 hlt3; clear hgr)
      rw [← HS.out] at hO3
      obtain ⟨o5, c5, rfl⟩ := hO3.shapeN (n := N + 1) (by rw [HS.out, List.length_append, HL.out]; rfl)
      exact ⟨⟨k + 1, by omega, hO3, hB.trans hb3⟩, by simp; omega⟩
    · have i1 : ¬ (N : Int) < 3 := by omega
      rw [HE.out (by omega)] at hO
      go_wp2
      go_ret
      exact ⟨_, rfl, hO, hB⟩

def pwT (m : Int) (n : Nat) (t : List (List Int)) : Nat → List (List Int)
  | 0 => t
  | k + 1 => timesT m n (pwT m n t k) t
theorem pwT_ok {m : Int} (hm : 0 < m) {n : Nat} {t : List (List Int)} (ht : PlaT m n t) : ∀ k, PlaT m n (pwT m n t k)
  | 0 => ht
  | k + 1 => timesT_ok hm _ _ _

set_option maxHeartbeats 1000000 in
theorem l09Power_c (m q : Int) (n k : Nat) (v : Value) (t : List (List Int)) (w : World) (hv : RdT w v t) (hq : q = (k : Int) + 1) (hk : k ≤ 1000) (h1 : 1 ≤ n) (hn : n ≤ 1000) (hm : 2 ≤ m) (hm' : m ≤ 3000000000) (ht : PlaT m n t) :
    Calls Tryz.prog 121 #[.int .i64 m, v, .int .i64 q] w fun e w' => ∃ v', e = .returned v' ∧ RdT w' v' (pwT m n t k) ∧ Below w.heap.size w w' := by
  subst hq
  have HT := Lib.hid ht
  clear ht
  go_enter Tryz.func121, Tryz.ntmps121
  go_wp2
  go_loopw [2, 7] (fun i s wr => ∃ j : Nat, j ≤ k ∧ i = .int .i64 ((k - j : Nat) + 1 : Int) ∧ RdT wr s (pwT m n t j) ∧ Below w.heap.size w wr) (fun i _ _ => (intOf i).toNat)
  case atStart => exact ⟨0, Nat.zero_le _, rfl, hv, Below.refl _ _⟩
  case round =>
    obtain ⟨j, hj, rfl, hR, hB⟩ := hrel
    by_cases hlt : j < k
    · have i1 : (1 : Int) < ((k - j : Nat) : Int) + 1 := by omega
      have e1 : IntKind.i64.wrap ((k - j : Nat) : Int) = ((k - (j + 1) : Nat) : Int) + 1 := by rw [IntWalk.i64_in _ (by omega)]; omega
      have hvr := hv.below hB (Nat.le_refl _)
      have HP := Lib.hid (pwT_ok (show 0 < m by omega) HT.out j)
      have HS := Lib.hid (show pwT m n t (j + 1) = timesT m n (pwT m n t j) t from rfl)
      generalize pwT m n t j = l at hR HP HS
      have HN := Lib.hid (show k - (j + 1) < k - j by omega)
      generalize hz : k - (j + 1) = z at e1 HN
      have HZ := Lib.hid hz
      clear hz
      generalize k - j = y at i1 e1 HN ⊢
      go_wp2_with fail
      refine (l03Times_c m n _ v l t _ hR hvr h1 hn hm hm' HP.out HT.out).mono ?_
      rintro e w2 ⟨v2, rfl, how, hb⟩
      rw [← HS.out] at how
      have B2 := hB.trans (hb.mono hB.size)
      go_wp2_with fail
      exact ⟨⟨j + 1, by omega, by rw [HZ.out], how.rd, B2⟩, by simp [intOf]; have := HN.out; omega⟩
    · obtain rfl : j = k := by omega
      have i1 : ¬ (1 : Int) < ((j - j : Nat) : Int) + 1 := by omega
      go_wp2
      go_ret
      exact ⟨_, rfl, hR, hB⟩

set_option maxHeartbeats 1000000 in
set_option maxRecDepth 100000 in
theorem l01Own2_c (m : Int) (n : Nat) (v : Value) (t : List (List Int)) (w : World) (hv : RdT w v t) (ht : PlaT m n t) (h1 : 1 ≤ n) (hn : n ≤ 1000) :
    Calls Tryz.prog 43 #[v] w fun e w' => ∃ v', e = .returned v' ∧ OwS w' w.heap.size v' t ∧ Below w.heap.size w w' := by
  obtain ⟨k, rfl⟩ : ∃ k, k = n := ⟨_, rfl⟩
  have hk : k ≤ k := Nat.le_refl _
  rw [show t = cutT k t from tri_eq ht.1 (fun i hi => by rw [(ht.2 i hi).1, ht.1])]
  obtain ⟨o, c, rfl, hmt, -⟩ := id hv
  have hv' : RdT w (.slice o k c) t := by rw [ht.1] at hv; exact hv
  rw [ht.1]
  have HT := Lib.hid ht
  clear ht hv hmt
  go_enter Tryz.func43, Tryz.ntmps43
  go_wp2_with fail
  have O1 := OwS.lit0 w
  have hb1 : Below w.heap.size w (w.alloc (.cells #[] 26)) := (by (repeat (first | exact bR _ _ | (refine bS ?_ _) | (refine bA ?_ _) | (refine bN ?_ _) | (refine bD ?_))))
  generalize w.alloc (.cells #[] 26) = w1 at O1 hb1 ⊢
  go_loopw [3, 4] (fun l i wr => ∃ r : Nat, r ≤ k ∧ i = .int .i64 r ∧ OwS wr w.heap.size l (cutRows k r t) ∧ Below w.heap.size w wr) (fun _ i _ => k - (intOf i).toNat)
  case atStart => exact ⟨0, Nat.zero_le _, rfl, O1, hb1⟩
  case round =>
    clear O1 hb1
    obtain ⟨r, hr, rfl, hO, hB⟩ := hrel
    have hBs := hB.size
    obtain ⟨ol, cl, rfl⟩ := hO.shapeN (n := r) (cutRows_len _ _ _)
    by_cases hlt : r < k
    · obtain ⟨row, hr1, hl1, hj1⟩ := HT.out.row (show r < k by omega)
      have hvr := hv'.below hB (Nat.le_refl _)
      obtain ⟨bt, ft, rfl, -⟩ := hvr.rows (by have := HT.out.1; omega)
      obtain ⟨o1, c1, cx, rx⟩ := hvr.row hr1
      obtain ⟨b1, f1, rfl, -⟩ := rx.cells (by omega)
      have hcap := rx.len
      have hrow := take_row HT.out hlt hk hr1
      rw [List.take_of_length_le (by omega)] at hrow
      have rt := rx
      rw [hl1, hrow] at rt
      rw [hl1] at cx
      clear hrow
      have HS := Lib.hid (cutRows_snoc k r t)
      have HL := Lib.hid (cutRows_len k r t)
      generalize cutRows k r t = l at hO HS HL
      have i0 : (0 : Int) ≤ (r : Int) := by omega
      have i1 : (r : Int) < (k : Int) := by omega
      have i2 : (r : Int) ≤ (k : Int) - 1 := by omega
      have e1 : IntKind.i64.wrap ((k : Int) - 1 - (r : Int)) = (k : Int) - 1 - (r : Int) := IntWalk.i64_in _ (by omega)
      have e2 : (k : Int) - 1 - (r : Int) + 1 = ((k - r : Nat) : Int) := by omega
      have e3 : IntKind.i64.wrap ((k - r : Nat) : Int) = ((k - r : Nat) : Int) := IntWalk.i64_in _ (by omega)
      have e4 : (((k - r : Nat) : Int)).toNat = k - r := by omega
      have e5 : ((k - r : Nat) : Int) ≤ (c1 : Int) := by omega
      have e6 : (0 : Int) ≤ ((k - r : Nat) : Int) := by omega
      clear hr1 hj1
      have hrk : k - r ≤ 1048576 := by omega
      go_wp2_with (first
        | (go_at_call 69; go_loud (refine (l01Own_c ⟨b1, f1, none⟩ (k - r) c1 (mk (k - r) (atT t r)) _ rt (by rw [mk_len]; exact hrk)).mono ?_; rintro e w3 ⟨vo, rfl, how, hb3⟩; obtain ⟨oa, ca, rfl⟩ := how.shapeN (n := k - r) (mk_len _ _); have hz3 := hb3.size))
        | (at_builtin; obtain ⟨W, hW⟩ : ∃ W : World, W = w3.alloc (.cells #[.slice oa (k - r) ca] 26) := ⟨_, rfl⟩; have hWb : Below wr.heap.size wr W := (by rw [hW]; exact (by (repeat (first | exact bR _ _ | (refine bS ?_ _) | (refine bA ?_ _) | (refine bN ?_ _) | (refine bD ?_) | (refine bT ?_ hb3))))); have hT : OwSR w.heap.size wr.heap.size W (.slice ol r cl) l := hO.toR.stay (fun j _ hj => hWb.block j hj); have hU : OwI W wr.heap.size (.slice oa (k - r) ca) (mk (k - r) (atT t r)) := (by rw [hW]; exact how.alloc _); have hC : W.cell? ⟨w3.heap.size, 0, none⟩ = some (.slice oa (k - r) ca) := (by rw [hW]; simp); have B3 := hB.trans (hWb.mono hBs); have hWs := hWb.size; rw [← hW]; have HW := Lib.hid hW; clear hW; go_loud (refine apT W rfl _ _ rfl w.heap.size wr.heap.size _ _ rfl hT (by omega) hBs _ _ w3.heap.size rfl hC hU (by rw [HL.out]; omega) ?_; intro g2 cap w4 hO4 hgr hb4; clear hgr; have B4 := B3.trans hb4)))
      rw [← HS.out] at hO4
      exact ⟨⟨r + 1, by omega, by go_num, hO4, B4⟩, by simp [intOf]; omega⟩
    · obtain rfl : r = k := by omega
      have i2 : ¬ (r : Int) ≤ (r : Int) - 1 := by omega
      go_wp2
      go_ret
      exact ⟨_, rfl, hO, hB⟩
end Go.Proofs.YtoednonijmkbjaaGreat
