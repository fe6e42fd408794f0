/- Lemmas. -/
import Derived.Test.YtoednonijmkbjaaGreatLM18
import Derived.Test.YtoednonijmkbjaaGreatLM12
import Derived.Test.YtoednonijmkbjaaGreatLG1
import Derived.Test.YtoednonijmkbjaaGreatLG15
import Derived.Test.YtoednonijmkbjaaGreatLSerC
import Derived.Test.YtoednonijmkbjaaGreatLM7
import Derived.Test.YtoednonijmkbjaaGreatLG3
import Derived.Test.YtoednonijmkbjaaGreatLG9
set_option linter.unusedSimpArgs false
set_option linter.unusedVariables false
namespace Go.Proofs.YtoednonijmkbjaaGreat
open Go.RowKit

theorem addcT_plus {m : Int} (hm : 0 < m) {n : Nat} {t : List (List Int)} (ht : PlaT m n t) (c : Int) :
    tri n (fun i j => (atT t i j + atT (numbT m c n) i j) % m) = addcT m c n t := tri_ext fun i j h => by
  unfold numbT
  rw [atT_tri h]
  by_cases e : i = 0 ∧ j = 0
  · rw [if_pos e, if_pos e]
    obtain ⟨rfl, rfl⟩ := e
    rw [Int.add_emod, Int.emod_emod_of_dvd _ (Int.dvd_refl m), ← Int.add_emod]
  · rw [if_neg e, if_neg e, Int.add_zero]
    obtain ⟨-, -, -, -, h1, h2⟩ := ht.at h
    exact Int.emod_eq_of_lt h1 h2
theorem addcT_set {m : Int} {n : Nat} {t : List (List Int)} (hn : 0 < n) (ht : PlaT m n t) (c : Int) {row : List Int} (hr : t[0]? = some row) : t.set 0 (row.set 0 ((atT t 0 0 + c) % m)) = addcT m c n t := by
  have e : t = tri n (atT t) := tri_eq ht.1 (fun i hi => by rw [(ht.2 i hi).1, ht.1])
  have e2 : row = mk (n - 0) (atT t 0) := by
    rw [e, tri_get hn] at hr
    exact (Option.some.inj hr).symm
  have key : (tri n (atT t)).set 0 ((mk (n - 0) (atT t 0)).set 0 ((atT t 0 0 + c) % m)) = addcT m c n t := by
    rw [tri_set (f := atT t) (by omega)]; rfl
  rw [← e] at key
  rw [e2]
  exact key

set_option maxHeartbeats 4000000 in
set_option maxRecDepth 100000 in
theorem l03After_c (m : Int) (n : Nat) (v u : Value) (xs : List Int) (yss : List (List Int)) (w : World) (hv : RdI w v xs) (hu : RdT w u yss) (h1 : 1 ≤ n) (hn : n ≤ 1000) (hm : 2 ≤ m) (hm' : m ≤ 3000000000)
    (hxl : xs.length ≤ 1048576) (hx : ∀ x ∈ xs, 0 ≤ x ∧ x < m) (hy : PlaT m n yss) :
    Calls Tryz.prog 89 #[.int .i64 m, v, u] w fun e w' => ∃ v', e = .returned v' ∧ OwS w' w.heap.size v' (hornT m n yss xs) ∧ Below w.heap.size w w' := by
  obtain ⟨o, c, rfl, hmx, -⟩ := id hv
  obtain ⟨o', c', rfl, hmy, -⟩ := id hu
  have HY := Lib.hid hy
  have hu' : RdT w (.slice o' n c') yss := by rw [hy.1] at hu; exact hu
  rw [hy.1] at hmy ⊢
  unfold maxLen at hmx hmy
  clear hu hy
  have m0 : (m == 0) = false := by simp; omega
  have m1 : ¬ m = 0 := by omega
  go_enter Tryz.func89, Tryz.ntmps89
  go_wp2_with (go_at_call 79; refine (l03Zero_c ((n : Int) - 1) n _ rfl hn).mono ?_; rintro e w2 ⟨vz, rfl, how, B2⟩; obtain ⟨oz, cz, rfl⟩ := how.shapeN (n := n) (zeroT_len n))
  go_loopw [7, 8, 9] (fun s i _ wr => ∃ (j : Nat) (ov : Option Addr) (cv : Nat), j ≤ xs.length ∧ i = .int .i64 ((j : Int) - 1) ∧ s = .slice ov n cv ∧ OwS wr w.heap.size (.slice ov n cv) (hornT m n yss (xs.drop j)) ∧ Below w.heap.size w wr) (fun _ i _ _ => ((intOf i) + 1).toNat)
  case atStart => exact ⟨xs.length, oz, cz, Nat.le_refl _, rfl, rfl, by rw [List.drop_length]; exact how, B2⟩
  case round =>
    obtain ⟨j, ov, cv, hj, rfl, rfl, hO, hB⟩ := hrel
    have hBs := hB.size
    by_cases hlt : 0 < j
    · obtain ⟨k, rfl⟩ : ∃ k, j = k + 1 := ⟨j - 1, by omega⟩
      have ek : (((k + 1 : Nat) : Int)) - 1 = (k : Int) := by omega
      rw [ek]
      clear ek
      have HS := Lib.hid (hornT_drop (m := m) (n := n) (t := yss) (some_at0 (show k < xs.length by omega)))
      have HO := Lib.hid (hornT_ok (m := m) (show 0 < m by omega) n yss (xs.drop (k + 1)))
      generalize hornT m n yss (xs.drop (k + 1)) = l at hO HS HO
      have hkx := at0_range (by omega) hx k
      obtain ⟨bx, fx, rfl, -⟩ := hv.cells (by omega)
      have i0 : (0 : Int) ≤ (k : Int) := by omega
      have i1 : (k : Int) < (xs.length : Int) := by omega
      have i2 : (0 : Int) < (n : Int) := by omega
      have i3 : 0 < n := by omega
      have HT := Lib.hid (timesT_ok (m := m) (show 0 < m by omega) n l yss)
      have HTl := Lib.hid (timesT_len m n l yss)
      generalize hTT : timesT m n l yss = T at HS HT HTl
      have hTT2 := Lib.hid hTT
      clear hTT
      go_wp2_with (go_at_call 124; refine (l03Times_c m n _ _ l yss wr hO.rd (hu'.below hB (Nat.le_refl _)) h1 hn hm hm' HO.out HY.out).mono ?_; rw [hTT2.out]; rintro e w3 ⟨v3, rfl, how3, hb3⟩; obtain ⟨o3, c3, rfl⟩ := how3.shapeN (n := n) HTl.out; obtain ⟨us, how3⟩ := how3.toR.named; obtain ⟨g, rfl, hgl, hgl'⟩ := how3.row (by omega); obtain ⟨r0, hr0, hrl, hrj⟩ := HT.out.row i3; obtain ⟨o4, c4, hu4, cx4, how4, hbl4, hset4⟩ := how3.at hr0; rw [hrl] at hu4 cx4 how4 hbl4 hset4; have HR0 := Lib.hid hr0; have HRJ := Lib.hid hrj; have HRL := Lib.hid hrl; clear hr0 hrj hrl; obtain ⟨gr, rfl, hgr1, hgr2⟩ := how4.row (by omega))
      have HX0 := hbl4 gr rfl
      have hc0 := how4.cell (k := 0) (HRJ.out 0 (by omega))
      have hf0 := how4.fz 0
      obtain ⟨-, -, -, -, ht0, ht1⟩ := HT.out.at (i := 0) (j := 0) (by omega)
      have B3 := hB.trans (hb3.mono hBs)
      have cx := (hv.below B3 (Nat.le_refl _)).cell0 (some_at0 (show k < xs.length by omega))
      have i4 : (0 : Int) < ((n - 0 : Nat) : Int) := by omega
      have hMod := mod_lt' (a := atT T 0 0 + at0 xs k) (show 0 < m by omega)
      have hN := Lib.hid how4
      have hS4 := Lib.hid hset4
      clear how4 hset4 hu4
      go_wp2_with fail
      have e1 : IntKind.i64.wrap (atT T 0 0 + at0 xs k) = atT T 0 0 + at0 xs k := IntWalk.i64_in _ (by omega)
      have e2 : (atT T 0 0 + at0 xs k).tmod m = (atT T 0 0 + at0 xs k) % m := Int.tmod_eq_emod_of_nonneg (by omega)
      go_still_tail 12, (by kernel_rfl)
      change wpList _ _ _ _ _ w3.drew
      have hg0 := gr_put (World.grownBy.refl w3 (some gr)) 0 (.int .i64 ((atT T 0 0 + at0 xs k) % m))
      have hOn := hS4.out _ _ (by rw [List.length_set, HRL.out]) hg0 (hN.out.put 0 ((atT T 0 0 + at0 xs k) % m))
      rw [addcT_set i3 HT.out _ HR0.out, ← HS.out] at hOn
      have Bn := below_put B3 (g := gr) (k := 0) (by omega) (.int .i64 ((atT T 0 0 + at0 xs k) % m))
      go_wp2
      exact ⟨⟨k, _, _, by omega, by go_num, rfl, hOn.r.ow.mono hBs, Bn.drew⟩, by simp [intOf]⟩
    · obtain rfl : j = 0 := by omega
      rw [List.drop_zero] at hO
      go_wp2
      go_ret
      exact ⟨_, rfl, hO, hB⟩

end Go.Proofs.YtoednonijmkbjaaGreat
set_option linter.unusedSimpArgs false
set_option linter.unusedVariables false
namespace Go.Proofs.YtoednonijmkbjaaGreat
open Go.RowKit

set_option maxHeartbeats 2000000 in
set_option maxRecDepth 100000 in
theorem ofS_c (m m' : Int) (n : Nat) (v u : Value) (xs : List Int) (yss : List (List Int)) (w : World) (hv : RdI w v xs) (hu : RdT w u yss) (hxl : 1 ≤ xs.length) (hxn : xs.length ≤ 1048576) (h1 : 1 ≤ n) (hn : n ≤ 1000) (hm : 2 ≤ m) (hm' : m ≤ 1000000000000)
    (hx : ∀ x ∈ xs, 0 ≤ x ∧ x < m) (hy : PlaT m n yss) :
    Calls Tryz.prog 106 #[.agg #[.int .i64 m', v], .agg #[.int .i64 m, u]] w fun e w' => PVEnd w w' m (hornT m n yss xs) e := by
  obtain ⟨o, c, rfl, hmx, -⟩ := id hv
  obtain ⟨o', c', rfl, hmy, -⟩ := id hu
  have hml := hmx.1
  rw [hy.1] at hmy hu ⊢
  have hmt := hmy.1
  unfold maxLen at hmx hmy
  have HY := Lib.hid hy
  clear hy
  go_enter Tryz.func106, Tryz.ntmps106
  go_wp2_with fail
  (have X0 := ((RB2.mk1 w  (.int .i64 m') (.slice o xs.length c) 28).1).below (w' := (((w.alloc (.cells #[.int .i64 m', .slice o xs.length c] 28)).alloc (.cells #[.int .i64 m, .slice o' n c'] 31)).alloc (.cells #[.int .i64 0, .slice none 0 0] 31))) (by (repeat (first | exact bR _ _ | (refine bS ?_ _) | (refine bA ?_ _) | (refine bN ?_ _) | (refine bD ?_)))) (Nat.le_refl _); have Y0 := ((RB2.mk2 w (.cells #[.int .i64 m', .slice o xs.length c] 28) (.int .i64 m) (.slice o' n c') 31).1).below (w' := (((w.alloc (.cells #[.int .i64 m', .slice o xs.length c] 28)).alloc (.cells #[.int .i64 m, .slice o' n c'] 31)).alloc (.cells #[.int .i64 0, .slice none 0 0] 31))) (by (repeat (first | exact bR _ _ | (refine bS ?_ _) | (refine bA ?_ _) | (refine bN ?_ _) | (refine bD ?_)))) (Nat.le_refl _); have R0 := ((RB2.mk3 w (.cells #[.int .i64 m', .slice o xs.length c] 28) (.cells #[.int .i64 m, .slice o' n c'] 31) (.int .i64 0) (.slice none 0 0) 31)).below (w' := (((w.alloc (.cells #[.int .i64 m', .slice o xs.length c] 28)).alloc (.cells #[.int .i64 m, .slice o' n c'] 31)).alloc (.cells #[.int .i64 0, .slice none 0 0] 31))) (by (repeat (first | exact bR _ _ | (refine bS ?_ _) | (refine bA ?_ _) | (refine bN ?_ _) | (refine bD ?_)))) (Nat.le_refl _); have B0 : Below w.heap.size w (((w.alloc (.cells #[.int .i64 m', .slice o xs.length c] 28)).alloc (.cells #[.int .i64 m, .slice o' n c'] 31)).alloc (.cells #[.int .i64 0, .slice none 0 0] 31)) := (by (repeat (first | exact bR _ _ | (refine bS ?_ _) | (refine bA ?_ _) | (refine bN ?_ _) | (refine bD ?_)))); have hv0 := hv.below (w' := (((w.alloc (.cells #[.int .i64 m', .slice o xs.length c] 28)).alloc (.cells #[.int .i64 m, .slice o' n c'] 31)).alloc (.cells #[.int .i64 0, .slice none 0 0] 31))) (by (repeat (first | exact bR _ _ | (refine bS ?_ _) | (refine bA ?_ _) | (refine bN ?_ _) | (refine bD ?_)))) (Nat.le_refl _); have hu0 := hu.below (w' := (((w.alloc (.cells #[.int .i64 m', .slice o xs.length c] 28)).alloc (.cells #[.int .i64 m, .slice o' n c'] 31)).alloc (.cells #[.int .i64 0, .slice none 0 0] 31))) (by (repeat (first | exact bR _ _ | (refine bS ?_ _) | (refine bA ?_ _) | (refine bN ?_ _) | (refine bD ?_)))) (Nat.le_refl _); generalize ((w.alloc (.cells #[.int .i64 m', .slice o xs.length c] 28)).alloc (.cells #[.int .i64 m, .slice o' n c'] 31)).alloc (.cells #[.int .i64 0, .slice none 0 0] 31) = w0 at X0 Y0 R0 B0 hv0 hu0 ⊢)
  obtain ⟨x0, x1⟩ := id Y0
  have hzl : w.heap.size + 2 < w0.heap.size := R0.1.lt
  go_wp2_with fail
  refine (number_c m 0 o' n c' _ h1 hn hm (by omega) (by omega) (by omega)).mono ?_
  rintro e w1 ⟨vz, rfl, how, hb⟩
  obtain ⟨oz, cz, rfl⟩ := how.shapeN (n := n) (numbT_len _ _ _)
  rw [numbT_0] at how
  (have X1 := X0.below hb (Nat.le_refl _); have Y1 := Y0.below hb (Nat.le_refl _); have R1 := R0.below hb (Nat.le_refl _); have hv1 := hv0.below hb (Nat.le_refl _); have hu1 := hu0.below hb (Nat.le_refl _); have B1 := B0.trans (hb.mono B0.size))
  clear x0 x1
  obtain ⟨x0, x1⟩ := id X1
  have hb1 := hb.size
  have lX := X1.lt
  have lR := R1.1.lt
  go_wp2_with fail
  clear x0 x1
  (have hb : Below w1.heap.size w1 (w1.alloc (.cells #[.int .i64 m, .slice oz n cz] 31)) := (by (repeat (first | exact bR _ _ | (refine bS ?_ _) | (refine bA ?_ _) | (refine bN ?_ _) | (refine bD ?_)))); have X2 := X1.below hb (Nat.le_refl _); have Y2 := Y1.below hb (Nat.le_refl _); have R2 := R1.below hb (Nat.le_refl _); have hv2 := hv1.below hb (Nat.le_refl _); have hu2 := hu1.below hb (Nat.le_refl _); have how := how.alloc (.cells #[.int .i64 m, .slice oz n cz] 31); have B2 := B1.trans (hb.mono B1.size); have O := RB2.mk1 w1 (.int .i64 m) (.slice oz n cz) 31; have hl_w2 := hb.size; clear hb; generalize w1.alloc (.cells #[.int .i64 m, .slice oz n cz] 31) = w2 at O B2 hl_w2 X2 Y2 R2 hv2 hu2 how ⊢)
  refine (degreeS_c m' o xs.length c _ hml).mono ?_
  rintro e w3 ⟨rfl, hb⟩
  (have X3 := X2.below hb (Nat.le_refl _); have Y3 := Y2.below hb (Nat.le_refl _); have R3 := R2.below hb (Nat.le_refl _); have hv3 := hv2.below hb (Nat.le_refl _); have hu3 := hu2.below hb (Nat.le_refl _); have B3 := B2.trans (hb.mono B2.size))
  have O3 := O.below hb (Nat.le_refl _)
  have how3 := how.below hb
  have hb3 := hb.size
  clear hb how O lX lR
  have lX := X3.lt
  have lR := R3.1.lt
  have B3s := B3.size
  obtain ⟨bx, fx, rfl, hcx⟩ := hv.cells hxl
  have lx := cell_lt (hcx 0 _ (some_at0 (by omega)))
  clear hcx
  go_wp2_with fail
  go_loopw [6] (fun i wr => ∃ (j : Nat) (ov : Option Addr) (cv : Nat), j ≤ xs.length ∧ i = .int .i64 ((j : Int) - 1) ∧ OwS wr w0.heap.size (.slice ov n cv) (hornT m n yss (xs.drop j)) ∧ RB2 wr w1.heap.size (.int .i64 m) (.slice ov n cv) ∧ w3.grownBy wr (some w1.heap.size)) (fun i _ => ((intOf i) + 1).toNat)
  case atStart => exact ⟨xs.length, oz, cz, Nat.le_refl _, rfl, by rw [List.drop_length]; exact how3.mono (by omega), O3, World.grownBy.refl _ _⟩
  case round =>
    obtain ⟨j, ov, cv, hj, rfl, hO, OO, hg⟩ := hrel
    have Br := below_gr B3 hg (by omega) B3s
    have Xr := X3.grown hg (by simp; omega)
    have Yr := Y3.grown hg (by simp; omega)
    have hvr := hv.below Br (Nat.le_refl _)
    have hur := hu.below Br (Nat.le_refl _)
    have hgs := hg.size
    by_cases hlt : 0 < j
    · obtain ⟨k, rfl⟩ : ∃ k, j = k + 1 := ⟨j - 1, by omega⟩
      have ek : (((k + 1 : Nat) : Int)) - 1 = (k : Int) := by omega
      rw [ek]
      clear ek
      have HS := Lib.hid (hornT_drop (m := m) (n := n) (t := yss) (some_at0 (show k < xs.length by omega)))
      have HLl := Lib.hid (hornT_ok (m := m) (show 0 < m by omega) n yss (xs.drop (k + 1)))
      generalize hornT m n yss (xs.drop (k + 1)) = l at hO HS HLl
      have HT := Lib.hid (timesT_ok (m := m) (show 0 < m by omega) n l yss)
      have hkx := at0_range (by omega) hx k
      have i0 : (0 : Int) ≤ (k : Int) := by omega
      have i1 : (k : Int) < (xs.length : Int) := by omega
      go_wp2_with fail
      have hd0 : Below wr.heap.size wr wr.drew := (Below.refl _ _).drew
      have hsd0 := hd0.size
      have hlb_OO := OO.1.lt
      obtain ⟨⟨q0_OO_0, q0_OO_1⟩, qf0_OO⟩ := OO.below (Below.refl wr.heap.size wr) (Nat.le_refl _)
      obtain ⟨q0_Xr_0, q0_Xr_1⟩ := Xr.below (Below.refl wr.heap.size wr) (Nat.le_refl _)
      obtain ⟨q0_Yr_0, q0_Yr_1⟩ := Yr.below (Below.refl wr.heap.size wr) (Nat.le_refl _)
      have q0_cx := (((hvr).below (Below.refl wr.heap.size wr) (Nat.le_refl _))).cell0 (some_at0 (show k < xs.length by omega))
      refine wp_region_S (S := fun w' => w'.cell? ⟨w1.heap.size , 0, none⟩ = some (.int .i64 m) ∧ w'.cell? ⟨w1.heap.size , 1, none⟩ = some (.slice ov n cv) ∧ w'.cell? ⟨w.heap.size, 0, none⟩ = some (.int .i64 m') ∧ w'.cell? ⟨w.heap.size, 1, none⟩ = some (.slice (some ⟨bx, fx, none⟩) xs.length c) ∧ w'.cell? ⟨w.heap.size + 1, 0, none⟩ = some (.int .i64 m) ∧ w'.cell? ⟨w.heap.size + 1, 1, none⟩ = some (.slice o' n c') ∧ w'.cell? ⟨bx, fx + k, none⟩ = some (.int .i64 (at0 xs k))) 11 (by kernel_rfl) ?_
      have hHeld : (fun w' : World => w'.cell? ⟨w1.heap.size , 0, none⟩ = some (.int .i64 m) ∧ w'.cell? ⟨w1.heap.size , 1, none⟩ = some (.slice ov n cv) ∧ w'.cell? ⟨w.heap.size, 0, none⟩ = some (.int .i64 m') ∧ w'.cell? ⟨w.heap.size, 1, none⟩ = some (.slice (some ⟨bx, fx, none⟩) xs.length c) ∧ w'.cell? ⟨w.heap.size + 1, 0, none⟩ = some (.int .i64 m) ∧ w'.cell? ⟨w.heap.size + 1, 1, none⟩ = some (.slice o' n c') ∧ w'.cell? ⟨bx, fx + k, none⟩ = some (.int .i64 (at0 xs k))) wr.drew := by go_keep
      refine' wpAnyS_takeL (i := 0) (v := _) rfl (by kernel_rfl) (by kernel_rfl) (by kernel_rfl) (by kernel_rfl) (fun _ _ _ h => h) (Or.inl ⟨by rfl, ?yT1⟩) hHeld ?rT1
      case yT1 => (intro w' hSw; (try dsimp only at hSw); go_simp; try with_reducible rfl)
      try simp only [List.getElem_toArray, List.getElem_cons_zero, List.getElem_cons_succ, Act.put, List.setIfInBounds_toArray, List.set_cons_zero, List.set_cons_succ]
      refine' wpAnyS_takeL (i := 1) (v := _) rfl (by kernel_rfl) (by kernel_rfl) (by kernel_rfl) (by kernel_rfl) (fun _ _ _ h => h) (Or.inl ⟨by rfl, ?yT2⟩) hHeld ?rT2
      case yT2 => (intro w' hSw; (try dsimp only at hSw); go_simp; try with_reducible rfl)
      try simp only [List.getElem_toArray, List.getElem_cons_zero, List.getElem_cons_succ, Act.put, List.setIfInBounds_toArray, List.set_cons_zero, List.set_cons_succ]
      refine' wpAnyS_takeL (i := 3) (v := _) rfl (by kernel_rfl) (by kernel_rfl) (by kernel_rfl) (by kernel_rfl) (fun _ _ _ h => h) (Or.inl ⟨by rfl, ?yT3⟩) hHeld ?rT3
      case yT3 => (intro w' hSw; (try dsimp only at hSw); go_simp; try with_reducible rfl)
      try simp only [List.getElem_toArray, List.getElem_cons_zero, List.getElem_cons_succ, Act.put, List.setIfInBounds_toArray, List.set_cons_zero, List.set_cons_succ]
      refine' wpAnyS_takeL (i := 4) (v := _) rfl (by kernel_rfl) (by kernel_rfl) (by kernel_rfl) (by kernel_rfl) (fun _ _ _ h => h) (Or.inl ⟨by rfl, ?yT4⟩) hHeld ?rT4
      case yT4 => (intro w' hSw; (try dsimp only at hSw); go_simp; try with_reducible rfl)
      try simp only [List.getElem_toArray, List.getElem_cons_zero, List.getElem_cons_succ, Act.put, List.setIfInBounds_toArray, List.set_cons_zero, List.set_cons_succ]
      refine' wpAnyS_takeL (i := 5) (v := _) rfl (by kernel_rfl) (by kernel_rfl) (by kernel_rfl) (by kernel_rfl) (fun _ _ _ h => h) (Or.inl ⟨by rfl, ?yT5⟩) hHeld ?rT5
      case yT5 => (intro w' hSw; (try dsimp only at hSw); go_simp; try with_reducible rfl)
      try simp only [List.getElem_toArray, List.getElem_cons_zero, List.getElem_cons_succ, Act.put, List.setIfInBounds_toArray, List.set_cons_zero, List.set_cons_succ]
      refine' wpAnyS_takeL (i := 6) (v := _) rfl (by kernel_rfl) (by kernel_rfl) (by kernel_rfl) (by kernel_rfl) (fun _ _ _ h => h) (Or.inl ⟨by rfl, ?yT6⟩) hHeld ?rT6
      case yT6 => (intro w' hSw; (try dsimp only at hSw); go_simp; try with_reducible rfl)
      try simp only [List.getElem_toArray, List.getElem_cons_zero, List.getElem_cons_succ, Act.put, List.setIfInBounds_toArray, List.set_cons_zero, List.set_cons_succ]
      refine' wpAnyS_takeL (i := 7) (v := _) rfl (by kernel_rfl) (by kernel_rfl) (by kernel_rfl) (by kernel_rfl) (fun _ _ _ h => h) (Or.inl ⟨by rfl, ?yT7⟩) hHeld ?rT7
      case yT7 => (intro w' hSw; (try dsimp only at hSw); go_simp; try with_reducible rfl)
      try simp only [List.getElem_toArray, List.getElem_cons_zero, List.getElem_cons_succ, Act.put, List.setIfInBounds_toArray, List.set_cons_zero, List.set_cons_succ]
      refine' wpAnyS_takeL (i := 8) (v := _) rfl (by kernel_rfl) (by kernel_rfl) (by kernel_rfl) (by kernel_rfl) (fun _ _ _ h => h) (Or.inl ⟨by rfl, ?yT8⟩) hHeld ?rT8
      case yT8 => (intro w' hSw; (try dsimp only at hSw); go_simp; try with_reducible rfl)
      try simp only [List.getElem_toArray, List.getElem_cons_zero, List.getElem_cons_succ, Act.put, List.setIfInBounds_toArray, List.set_cons_zero, List.set_cons_succ]
      refine wpAnyS_oneL (i := 2) rfl (by kernel_rfl) (fun K hK => ?_)
      go_simp
      go_at_call 132
      refine (timesP_c m m n _ _ l yss _ ((hO.rd).below (by (repeat (first | exact bR _ _ | (refine bS ?_ _) | (refine bA ?_ _) | (refine bN ?_ _) | (refine bD ?_)))) (Nat.le_refl _)) ((hur).below (by (repeat (first | exact bR _ _ | (refine bS ?_ _) | (refine bA ?_ _) | (refine bN ?_ _) | (refine bD ?_)))) (Nat.le_refl _)) h1 hn hm hm' HLl.out HY.out).mono ?_
      rintro e wd1 ⟨vt1, rfl, hod1, hbd1⟩
      obtain ⟨ot, ct, rfl⟩ := hod1.shapeN (n := n) (timesT_len _ _ _ _)
      have hd1 : Below wr.heap.size wr wd1 := (by (repeat (first | exact bR _ _ | (refine bS ?_ _) | (refine bA ?_ _) | (refine bN ?_ _) | (refine bD ?_) | (refine bT ?_ hbd1))))
      have hsd1 := hd1.size
      obtain ⟨⟨q1_OO_0, q1_OO_1⟩, qf1_OO⟩ := OO.below hd1 (Nat.le_refl _)
      obtain ⟨q1_Xr_0, q1_Xr_1⟩ := Xr.below hd1 (Nat.le_refl _)
      obtain ⟨q1_Yr_0, q1_Yr_1⟩ := Yr.below hd1 (Nat.le_refl _)
      have q1_cx := (((hvr).below hd1 (Nat.le_refl _))).cell0 (some_at0 (show k < xs.length by omega))
      go_wp2_with fail
      clear hHeld
      have hHeld : (fun w' : World => w'.cell? ⟨w1.heap.size , 0, none⟩ = some (.int .i64 m) ∧ w'.cell? ⟨w1.heap.size , 1, none⟩ = some (.slice ov n cv) ∧ w'.cell? ⟨w.heap.size, 0, none⟩ = some (.int .i64 m') ∧ w'.cell? ⟨w.heap.size, 1, none⟩ = some (.slice (some ⟨bx, fx, none⟩) xs.length c) ∧ w'.cell? ⟨w.heap.size + 1, 0, none⟩ = some (.int .i64 m) ∧ w'.cell? ⟨w.heap.size + 1, 1, none⟩ = some (.slice o' n c') ∧ w'.cell? ⟨bx, fx + k, none⟩ = some (.int .i64 (at0 xs k))) wd1 := by go_keep
      refine hK.out _ _ (fun _ => hHeld) ?_
      clear hK K
      try simp only [List.getElem_toArray, List.getElem_cons_zero, List.getElem_cons_succ, Act.put, List.setIfInBounds_toArray, List.set_cons_zero, List.set_cons_succ]
      refine wpAnyS_oneL (i := 9) rfl (by kernel_rfl) (fun K hK => ?_)
      go_simp
      go_at_call 131
      refine (number_c m (at0 xs k) o' n c' _ h1 hn hm (by omega) (by omega) (by omega)).mono ?_
      rintro e wd2 ⟨vc2, rfl, hod2, hbd2⟩
      obtain ⟨oc, cc, rfl⟩ := hod2.shapeN (n := n) (numbT_len _ _ _)
      have hd2 : Below wr.heap.size wr wd2 := (by (repeat (first | exact bR _ _ | (refine bS ?_ _) | (refine bA ?_ _) | (refine bN ?_ _) | (refine bD ?_) | (refine bT ?_ hbd1) | (refine bT ?_ hbd2))))
      have hsd2 := hd2.size
      obtain ⟨⟨q2_OO_0, q2_OO_1⟩, qf2_OO⟩ := OO.below hd2 (Nat.le_refl _)
      obtain ⟨q2_Xr_0, q2_Xr_1⟩ := Xr.below hd2 (Nat.le_refl _)
      obtain ⟨q2_Yr_0, q2_Yr_1⟩ := Yr.below hd2 (Nat.le_refl _)
      have q2_cx := (((hvr).below hd2 (Nat.le_refl _))).cell0 (some_at0 (show k < xs.length by omega))
      go_wp2_with fail
      clear hHeld
      have hHeld : (fun w' : World => w'.cell? ⟨w1.heap.size , 0, none⟩ = some (.int .i64 m) ∧ w'.cell? ⟨w1.heap.size , 1, none⟩ = some (.slice ov n cv) ∧ w'.cell? ⟨w.heap.size, 0, none⟩ = some (.int .i64 m') ∧ w'.cell? ⟨w.heap.size, 1, none⟩ = some (.slice (some ⟨bx, fx, none⟩) xs.length c) ∧ w'.cell? ⟨w.heap.size + 1, 0, none⟩ = some (.int .i64 m) ∧ w'.cell? ⟨w.heap.size + 1, 1, none⟩ = some (.slice o' n c') ∧ w'.cell? ⟨bx, fx + k, none⟩ = some (.int .i64 (at0 xs k))) wd2 := by go_keep
      refine hK.out _ _ (fun _ => hHeld) ?_
      clear hK K
      try simp only [List.getElem_toArray, List.getElem_cons_zero, List.getElem_cons_succ, Act.put, List.setIfInBounds_toArray, List.set_cons_zero, List.set_cons_succ]
      refine wpAnyS_oneL (i := 10) rfl (by kernel_rfl) (fun K hK => ?_)
      go_simp
      go_at_call 130
      refine (plusP_c m m _ _ (timesT m n l yss) (numbT m (at0 xs k) n) _ ((hod1.below (by (repeat (first | exact bR _ _ | (refine bS ?_ _) | (refine bA ?_ _) | (refine bN ?_ _) | (refine bD ?_) | (refine bT ?_ hbd2)))))).rd ((hod2.below (by (repeat (first | exact bR _ _ | (refine bS ?_ _) | (refine bA ?_ _) | (refine bN ?_ _) | (refine bD ?_)))))).rd (by rw [timesT_len]; omega) (by rw [timesT_len]; omega) (by rw [timesT_len, numbT_len]) hm (by omega) HT.out.2 (numbT_ok (by omega) _ _).2).mono ?_
      rintro e wd3 ⟨vp3, rfl, hod3, hbd3⟩
      rw [timesT_len] at hod3; obtain ⟨op, cp, rfl⟩ := hod3.shapeN (n := n) (tri_len _ _)
      have hd3 : Below wr.heap.size wr wd3 := (by (repeat (first | exact bR _ _ | (refine bS ?_ _) | (refine bA ?_ _) | (refine bN ?_ _) | (refine bD ?_) | (refine bT ?_ hbd1) | (refine bT ?_ hbd2) | (refine bT ?_ hbd3))))
      have hsd3 := hd3.size
      obtain ⟨⟨q3_OO_0, q3_OO_1⟩, qf3_OO⟩ := OO.below hd3 (Nat.le_refl _)
      obtain ⟨q3_Xr_0, q3_Xr_1⟩ := Xr.below hd3 (Nat.le_refl _)
      obtain ⟨q3_Yr_0, q3_Yr_1⟩ := Yr.below hd3 (Nat.le_refl _)
      have q3_cx := (((hvr).below hd3 (Nat.le_refl _))).cell0 (some_at0 (show k < xs.length by omega))
      go_wp2_with fail
      clear hHeld
      have hHeld : (fun w' : World => w'.cell? ⟨w1.heap.size , 0, none⟩ = some (.int .i64 m) ∧ w'.cell? ⟨w1.heap.size , 1, none⟩ = some (.slice ov n cv) ∧ w'.cell? ⟨w.heap.size, 0, none⟩ = some (.int .i64 m') ∧ w'.cell? ⟨w.heap.size, 1, none⟩ = some (.slice (some ⟨bx, fx, none⟩) xs.length c) ∧ w'.cell? ⟨w.heap.size + 1, 0, none⟩ = some (.int .i64 m) ∧ w'.cell? ⟨w.heap.size + 1, 1, none⟩ = some (.slice o' n c') ∧ w'.cell? ⟨bx, fx + k, none⟩ = some (.int .i64 (at0 xs k))) wd3 := by go_keep
      refine hK.out _ _ (fun _ => hHeld) ?_
      clear hK K
      try simp only [List.getElem_toArray, List.getElem_cons_zero, List.getElem_cons_succ, Act.put, List.setIfInBounds_toArray, List.set_cons_zero, List.set_cons_succ]
      refine wpAnyS_oneL (i := 11) rfl (by kernel_rfl) (fun K hK => ?_)
      go_simp
      (try go_wp2_with fail)
      refine hK.out _ _ (fun h => absurd h (by decide)) ?_
      clear hK K
      try simp only [List.getElem_toArray, List.getElem_cons_zero, List.getElem_cons_succ, Act.put, List.setIfInBounds_toArray, List.set_cons_zero, List.set_cons_succ]
      refine wpAnyS_done (by kernel_rfl) ?_ _
      have hOn := OO.below hd3 (Nat.le_refl _)
      go_wp2_with fail
      have hgZ : wr.grownBy ((wd3.setCell ⟨w1.heap.size , 0, none⟩ (.int .i64 m)).setCell ⟨w1.heap.size , 1, none⟩ (.slice op n cp)) (some w1.heap.size ) := (gr_put (gr_put (show wr.grownBy wd3 (some w1.heap.size ) from World.grownBy.mk hd3.os hd3.tape hd3.output hd3.size (fun k hk _ => hd3.block k hk)) _ _) _ _)
      have hOZ : RB2 ((wd3.setCell ⟨w1.heap.size , 0, none⟩ (.int .i64 m)).setCell ⟨w1.heap.size , 1, none⟩ (.slice op n cp)) w1.heap.size  (.int .i64 m) (.slice op n cp) := RB2.put hOn _ _
      have hRZ : OwS ((wd3.setCell ⟨w1.heap.size , 0, none⟩ (.int .i64 m)).setCell ⟨w1.heap.size , 1, none⟩ (.slice op n cp)) wr.heap.size (.slice op n cp) (tri n (fun i j => (atT (timesT m n l yss) i j + atT (numbT m (at0 xs k) n) i j) % m)) := ((hod3.low (by first | (simp; done) | (simp; omega) | omega) _).low (by first | (simp; done) | (simp; omega) | omega) _).mono (by first | (simp; done) | (simp; omega) | omega)
      rw [addcT_plus (by omega) HT.out, ← HS.out] at hRZ
      exact ⟨⟨k, op, cp, by omega, by go_num, hRZ.mono (by omega), hOZ, hg.trans hgZ⟩, by simp [intOf]⟩
    · obtain rfl : j = 0 := by omega
      rw [List.drop_zero] at hO
      obtain ⟨⟨z0, z1⟩, zf⟩ := id OO
      obtain ⟨⟨r0, r1⟩, rf⟩ := R3.grown hg (by simp; omega)
      go_wp2
      refine bodyPost_ret (v := .agg #[.int .i64 m, .slice ov n cv]) (by simp [results, Tryz.results106, go_sem, r0, r1]) rfl ⟨_, rfl, ?_, ?_⟩
      · exact ((hO.low (by first | (simp; done) | (simp; omega) | omega) _).low (by first | (simp; done) | (simp; omega) | omega) _).mono (by first | (simp; done) | (simp; omega) | omega)
      · (repeat (first | exact bR _ _ | (refine bS ?_ _) | (refine bA ?_ _) | (refine bN ?_ _) | (refine bD ?_) | (refine bT ?_ Br)))

end Go.Proofs.YtoednonijmkbjaaGreat
set_option linter.unusedSimpArgs false
set_option linter.unusedVariables false
namespace Go.Proofs.YtoednonijmkbjaaGreat
open Go.RowKit

def lawT (m : Int) (n : Nat) (a : List Int) : List (List Int) := hornT m n (twoT n a) (revL m n a)
theorem lawT_len (m : Int) (n : Nat) (a : List Int) : (lawT m n a).length = n := hornT_len _ _ _ _
theorem axT_ok {m : Int} (hm : 0 < m) {n : Nat} {a : List Int} (hr : ∀ x ∈ a, 0 ≤ x ∧ x < m) (k : Int) : PlaT m n (axT n a k) := tri_ok fun i j _ => by
  have h1 := at0_range hm hr i
  have h2 := at0_range hm hr j
  split <;> split <;> omega
theorem twoT_ok {m : Int} (hm : 0 < m) {n : Nat} {a : List Int} (hr : ∀ x ∈ a, 0 ≤ x ∧ x < m) : PlaT m n (twoT n a) := tri_ok fun i j _ => by
  have h1 := at0_range hm hr i
  have h2 := at0_range hm hr j
  split <;> split <;> omega
theorem revL_range {m : Int} (hm : 0 < m) (n : Nat) (a : List Int) : ∀ x ∈ revL m n a, 0 ≤ x ∧ x < m := revTo_range hm n a _
theorem axT_len (n : Nat) (a : List Int) (k : Int) : (axT n a k).length = n := tri_len _ _

set_option maxHeartbeats 4000000 in
set_option maxRecDepth 100000 in
theorem lawOf_c (m : Int) (n : Nat) (v : Value) (xs : List Int) (w : World) (hl : xs.length = n) (hv : RdI w v xs) (h1 : 2 ≤ n) (hn : n ≤ 1000) (hm : 2 ≤ m) (hm' : m ≤ 1000000000000) (hx : ∀ x ∈ xs, 0 ≤ x ∧ x < m) (h0 : at0 xs 0 = 0) :
    Calls Tryz.prog 97 #[.agg #[.int .i64 m, v]] w fun e w' => PVEnd w w' m (lawT m n xs) e := by
  subst hl
  obtain ⟨o, c, rfl, hmx, -⟩ := id hv
  unfold maxLen at hmx
  have HA0 := Lib.hid (axT_ok (m := m) (show 0 < m by omega) (n := xs.length) hx 0)
  have HA1 := Lib.hid (axT_ok (m := m) (show 0 < m by omega) (n := xs.length) hx 1)
  have HAd := Lib.hid (axT_add (m := m) (n := xs.length) hx (by omega) h0)
  have HTw := Lib.hid (twoT_ok (m := m) (show 0 < m by omega) (n := xs.length) hx)
  have HRl := Lib.hid (revL_len m xs.length xs)
  have HRr := Lib.hid (revL_range (m := m) (show 0 < m by omega) xs.length xs)
  have HLw := Lib.hid (show hornT m xs.length (twoT xs.length xs) (revL m xs.length xs) = lawT m xs.length xs from rfl)
  go_enter Tryz.func97, Tryz.ntmps97
  go_wp2_with fail
  (have X0 := ((RB2.mk1 w  (.int .i64 m) (.slice o xs.length c) 28).1).below (w' := ((w.alloc (.cells #[.int .i64 m, .slice o xs.length c] 28)).alloc (.cells #[.int .i64 0, .slice none 0 0] 31))) (by (repeat (first | exact bR _ _ | (refine bS ?_ _) | (refine bA ?_ _) | (refine bN ?_ _) | (refine bD ?_)))) (Nat.le_refl _); have R0 := ((RB2.mk2 w (.cells #[.int .i64 m, .slice o xs.length c] 28) (.int .i64 0) (.slice none 0 0) 31)).below (w' := ((w.alloc (.cells #[.int .i64 m, .slice o xs.length c] 28)).alloc (.cells #[.int .i64 0, .slice none 0 0] 31))) (by (repeat (first | exact bR _ _ | (refine bS ?_ _) | (refine bA ?_ _) | (refine bN ?_ _) | (refine bD ?_)))) (Nat.le_refl _); have B0 : Below w.heap.size w ((w.alloc (.cells #[.int .i64 m, .slice o xs.length c] 28)).alloc (.cells #[.int .i64 0, .slice none 0 0] 31)) := (by (repeat (first | exact bR _ _ | (refine bS ?_ _) | (refine bA ?_ _) | (refine bN ?_ _) | (refine bD ?_)))); have hv0 := hv.below (w' := ((w.alloc (.cells #[.int .i64 m, .slice o xs.length c] 28)).alloc (.cells #[.int .i64 0, .slice none 0 0] 31))) (by (repeat (first | exact bR _ _ | (refine bS ?_ _) | (refine bA ?_ _) | (refine bN ?_ _) | (refine bD ?_)))) (Nat.le_refl _); generalize (w.alloc (.cells #[.int .i64 m, .slice o xs.length c] 28)).alloc (.cells #[.int .i64 0, .slice none 0 0] 31) = w0 at X0 R0 B0 hv0 ⊢)
  have hd0 : Below w0.heap.size w0 w0.drew := (Below.refl _ _).drew
  have hsd0 := hd0.size
  have hrl := R0.1.lt
  have hneR_X0 : w.heap.size + 1 ≠ w.heap.size := by omega
  obtain ⟨⟨q0_R_0, q0_R_1⟩, qf0_R⟩ := R0.below (Below.refl w0.heap.size w0) (Nat.le_refl _)
  obtain ⟨q0_X0_0, q0_X0_1⟩ := X0.below (Below.refl w0.heap.size w0) (Nat.le_refl _)
  go_region_held3 (fun w' => w'.cell? ⟨w.heap.size, 0, none⟩ = some (.int .i64 m) ∧ w'.cell? ⟨w.heap.size, 1, none⟩ = some (.slice o xs.length c)) (go_keep)
    (first
      | (go_at_call 105; refine (reverseS_c m _ xs _ ((hv0).below (by (repeat (first | exact bR _ _ | (refine bS ?_ _) | (refine bA ?_ _) | (refine bN ?_ _) | (refine bD ?_)))) (Nat.le_refl _)) (by omega) (by omega) (by omega) (by omega) hx).mono ?_; rintro e wd1 ⟨vr, rfl, hod1, hbd1⟩; obtain ⟨or, cr, rfl⟩ := hod1.shapeN (n := xs.length) HRl.out; have hd1 : Below w0.heap.size w0 wd1 := (by (repeat (first | exact bR _ _ | (refine bS ?_ _) | (refine bA ?_ _) | (refine bN ?_ _) | (refine bD ?_) | (refine bT ?_ hbd1)))); have hsd1 := hd1.size; have hsz1_ := hbd1.size; (try simp at hsz1_); obtain ⟨⟨q1_R_0, q1_R_1⟩, qf1_R⟩ := R0.below hd1 (Nat.le_refl _); obtain ⟨q1_X0_0, q1_X0_1⟩ := X0.below hd1 (Nat.le_refl _))
      | (go_at_call_of 129 (Value.int .i64 0); refine (onAxis0_c m xs.length _ xs _ ((hv0).below (by (repeat (first | exact bR _ _ | (refine bS ?_ _) | (refine bA ?_ _) | (refine bN ?_ _) | (refine bD ?_) | (refine bT ?_ hbd1)))) (Nat.le_refl _)) rfl (by omega) (by omega)).mono ?_; rintro e wd2 ⟨va, rfl, hod2, hbd2⟩; obtain ⟨oa, ca, rfl⟩ := hod2.shapeN (n := xs.length) (axT_len _ _ _); have hd2 : Below w0.heap.size w0 wd2 := (by (repeat (first | exact bR _ _ | (refine bS ?_ _) | (refine bA ?_ _) | (refine bN ?_ _) | (refine bD ?_) | (refine bT ?_ hbd1) | (refine bT ?_ hbd2)))); have hsd2 := hd2.size; have hsz2_ := hbd2.size; (try simp at hsz2_); obtain ⟨⟨q2_R_0, q2_R_1⟩, qf2_R⟩ := R0.below hd2 (Nat.le_refl _); obtain ⟨q2_X0_0, q2_X0_1⟩ := X0.below hd2 (Nat.le_refl _))
      | (go_at_call_of 129 (Value.int .i64 1); refine (onAxis1_c m xs.length _ xs _ ((hv0).below (by (repeat (first | exact bR _ _ | (refine bS ?_ _) | (refine bA ?_ _) | (refine bN ?_ _) | (refine bD ?_) | (refine bT ?_ hbd1) | (refine bT ?_ hbd2)))) (Nat.le_refl _)) rfl (by omega) (by omega)).mono ?_; rintro e wd3 ⟨vb, rfl, hod3, hbd3⟩; obtain ⟨ob, cb, rfl⟩ := hod3.shapeN (n := xs.length) (axT_len _ _ _); have hd3 : Below w0.heap.size w0 wd3 := (by (repeat (first | exact bR _ _ | (refine bS ?_ _) | (refine bA ?_ _) | (refine bN ?_ _) | (refine bD ?_) | (refine bT ?_ hbd1) | (refine bT ?_ hbd2) | (refine bT ?_ hbd3)))); have hsd3 := hd3.size; have hsz3_ := hbd3.size; (try simp at hsz3_); obtain ⟨⟨q3_R_0, q3_R_1⟩, qf3_R⟩ := R0.below hd3 (Nat.le_refl _); obtain ⟨q3_X0_0, q3_X0_1⟩ := X0.below hd3 (Nat.le_refl _))
      | (go_at_call 130; refine (plusP_c m m _ _ (axT xs.length xs 0) (axT xs.length xs 1) _ ((hod2.below (by (repeat (first | exact bR _ _ | (refine bS ?_ _) | (refine bA ?_ _) | (refine bN ?_ _) | (refine bD ?_) | (refine bT ?_ hbd3)))))).rd ((hod3.below (by (repeat (first | exact bR _ _ | (refine bS ?_ _) | (refine bA ?_ _) | (refine bN ?_ _) | (refine bD ?_)))))).rd (by rw [axT_len]; omega) (by rw [axT_len]; omega) (by rw [axT_len, axT_len]) (by omega) (by omega) HA0.out.2 HA1.out.2).mono ?_; rintro e wd4 ⟨vp, rfl, hod4, hbd4⟩; rw [axT_len, HAd.out] at hod4; obtain ⟨op, cp, rfl⟩ := hod4.shapeN (n := xs.length) HTw.out.1; have hd4 : Below w0.heap.size w0 wd4 := (by (repeat (first | exact bR _ _ | (refine bS ?_ _) | (refine bA ?_ _) | (refine bN ?_ _) | (refine bD ?_) | (refine bT ?_ hbd1) | (refine bT ?_ hbd2) | (refine bT ?_ hbd3) | (refine bT ?_ hbd4)))); have hsd4 := hd4.size; have hsz4_ := hbd4.size; (try simp at hsz4_); obtain ⟨⟨q4_R_0, q4_R_1⟩, qf4_R⟩ := R0.below hd4 (Nat.le_refl _); obtain ⟨q4_X0_0, q4_X0_1⟩ := X0.below hd4 (Nat.le_refl _))
      | (go_at_call 106; refine (ofS_c m m xs.length _ _ (revL m xs.length xs) (twoT xs.length xs) _ ((hod1.below (by (repeat (first | exact bR _ _ | (refine bS ?_ _) | (refine bA ?_ _) | (refine bN ?_ _) | (refine bD ?_) | (refine bT ?_ hbd2) | (refine bT ?_ hbd3) | (refine bT ?_ hbd4)))))).rd ((hod4.below (by (repeat (first | exact bR _ _ | (refine bS ?_ _) | (refine bA ?_ _) | (refine bN ?_ _) | (refine bD ?_)))))).rd (by rw [HRl.out]; omega) (by rw [HRl.out]; omega) (by omega) (by omega) (by omega) (by omega) HRr.out HTw.out).mono ?_; rintro e wd5 ⟨vl, rfl, hod5, hbd5⟩; rw [HLw.out] at hod5; obtain ⟨ol, cl, rfl⟩ := hod5.shapeN (n := xs.length) (lawT_len _ _ _); have hd5 : Below w0.heap.size w0 wd5 := (by (repeat (first | exact bR _ _ | (refine bS ?_ _) | (refine bA ?_ _) | (refine bN ?_ _) | (refine bD ?_) | (refine bT ?_ hbd1) | (refine bT ?_ hbd2) | (refine bT ?_ hbd3) | (refine bT ?_ hbd4) | (refine bT ?_ hbd5)))); have hsd5 := hd5.size; have hsz5_ := hbd5.size; (try simp at hsz5_); obtain ⟨⟨q5_R_0, q5_R_1⟩, qf5_R⟩ := R0.below hd5 (Nat.le_refl _); obtain ⟨q5_X0_0, q5_X0_1⟩ := X0.below hd5 (Nat.le_refl _)))
  go_wp2
  refine bodyPost_ret (v := .agg #[.int .i64 m, .slice ol xs.length cl]) (by simp [results, Tryz.results97, go_sem, q5_R_0, q5_R_1]) rfl ⟨_, rfl, ?_, ?_⟩
  · have hbsz := B0.size
    exact ((hod5.low (by first | (simp; done) | (simp; omega) | omega) _).low (by first | (simp; done) | (simp; omega) | omega) _).mono (by first | (simp; done) | (simp; omega) | omega)
  · have hbsz := B0.size
    (repeat (first | exact bR _ _ | (refine bS ?_ _) | (refine bA ?_ _) | (refine bN ?_ _) | (refine bD ?_) | (refine bT ?_ hbd1) | (refine bT ?_ hbd2) | (refine bT ?_ hbd3) | (refine bT ?_ hbd4) | (refine bT ?_ hbd5) | (refine bT ?_ B0)))

end Go.Proofs.YtoednonijmkbjaaGreat
set_option linter.unusedSimpArgs false
set_option linter.unusedVariables false
namespace Go.Proofs.YtoednonijmkbjaaGreat
open Go.RowKit

theorem P4.pow9 {p : Nat} (hp : P4 p) {k : Nat} (hk : k ≤ 10) : 1 ≤ p ^ k ∧ p ^ k ≤ 282475249 := by
  refine ⟨Nat.pos_of_ne_zero (by have := hp.pos; simp; omega), ?_⟩
  have h1 : p ^ k ≤ 7 ^ k := Nat.pow_le_pow_left hp.pos.2 k
  have h2 : 7 ^ k ≤ 7 ^ 10 := Nat.pow_le_pow_right (by omega) hk
  have h3 : 7 ^ 10 = 282475249 := by decide
  omega

set_option maxHeartbeats 1000000 in
set_option maxRecDepth 100000 in
theorem typicalLaw1_c (p i j n c bp bq : Nat) (m : Int) (o : Option Addr) (t : List (List Int)) (w : World) (hp : P4 p) (hij : i + j < n) (hn : n ≤ 11) (hm : 1 ≤ m) (hm' : m ≤ 1000000000000) (ht : PlaT m n t)
    (hbp : w.cell? ⟨bp, 0, none⟩ = some (.int .i64 p)) (hbq : Box2 w bq (.int .i64 m) (.slice o n c)) (hv : RdT w (.slice o n c) t) :
    Calls Tryz.prog 100 #[.int .i64 i, .int .i64 j, .pointer (some ⟨bp, 0, none⟩), .pointer (some ⟨bq, 0, none⟩)] w fun e w' => e = .returned (.int .i64 (atT t i j / ((p ^ (i + j - 1) : Nat) : Int))) ∧ w = w' := by
  have hp2 := hp.pos
  have e1 : IntKind.i64.wrap ((i : Int) + (j : Int)) = (i : Int) + (j : Int) := IntWalk.i64_in _ (by omega)
  have e2 : IntKind.i64.wrap ((i : Int) + (j : Int) - 1) = (i : Int) + (j : Int) - 1 := IntWalk.i64_in _ (by omega)
  go_enter Tryz.func100, Tryz.ntmps100
  go_wp2_with fail
  go_loop [7, 12] (fun sd sk => ∃ k : Nat, k ≤ i + j - 1 ∧ sk = .int .i64 k ∧ sd = .int .i64 ((p ^ k : Nat) : Int)) (fun _ sk => 10 - (intOf sk).toNat)
  case atStart => exact ⟨0, Nat.zero_le _, rfl, rfl⟩
  case round =>
    obtain ⟨k, hk, rfl, rfl⟩ := hrel
    by_cases hlt : k < i + j - 1
    · have i1 : (k : Int) < (i : Int) + (j : Int) - 1 := by omega
      have hpk := hp.pow9 (show k + 1 ≤ 10 by omega)
      have e3 : IntKind.i64.wrap (((p ^ k : Nat) : Int) * (p : Int)) = ((p ^ (k + 1) : Nat) : Int) := by
        have h : ((p ^ k : Nat) : Int) * (p : Int) = ((p ^ (k + 1) : Nat) : Int) := by rw [Nat.pow_succ]; simp
        rw [h]; exact IntWalk.i64_in _ (by omega)
      have HK := Lib.hid hk
      generalize hA : p ^ k = A at e3 ⊢
      generalize hB : p ^ (k + 1) = B at e3 hpk
      have HB := Lib.hid hB
      clear hA hB
      go_wp2_with fail
      exact ⟨⟨k + 1, by omega, by go_num, by rw [HB.out]⟩, by simp [intOf]; omega⟩
    · obtain rfl : k = i + j - 1 := by omega
      have i1 : ¬ (((i + j - 1 : Nat) : Int) < (i : Int) + (j : Int) - 1) := by omega
      have hpk := hp.pow9 (show i + j - 1 ≤ 10 by omega)
      obtain ⟨b0, b1⟩ := id hbq
      obtain ⟨row, hr, hrl, hrj⟩ := ht.row (show i < n by omega)
      have rg := tab_range ht hij
      obtain ⟨bt, ft, rfl, -⟩ := hv.rows (by have := ht.1; omega)
      obtain ⟨o1, c1, cx, rx⟩ := hv.row hr
      rw [hrl] at cx rx
      obtain ⟨b2, f2, rfl, -⟩ := rx.cells (by omega)
      have cc := rx.cell0 (hrj j (by omega))
      have j1 : (i : Int) < (n : Int) := by omega
      have j2 : (j : Int) < ((n - i : Nat) : Int) := by omega
      obtain ⟨x, hxx⟩ : ∃ x, x = atT t i j := ⟨_, rfl⟩
      rw [← hxx] at rg cc
      have HX := Lib.hid hxx
      clear hr hrj hxx
      generalize hP : p ^ (i + j - 1) = P at hpk ⊢
      have HP := Lib.hid hP
      clear hP
      have t6 : x.tdiv (P : Int) = x / (P : Int) := Int.tdiv_eq_ediv_of_nonneg rg.1
      have kk1 : ((P : Int) == 0) = false := by simp only [beq_eq_false_iff_ne]; omega
      have kk2 : ¬ (P : Int) = 0 := by omega
      have kk3 : ¬ (P : Int) = -1 := by omega
      have q1 : 0 ≤ x / (P : Int) := Int.ediv_nonneg rg.1 (by omega)
      have q2 : x / (P : Int) ≤ x := Int.ediv_le_self _ rg.1
      have e7 : IntKind.i64.wrap (x / (P : Int)) = x / (P : Int) := IntWalk.i64_in _ (by omega)
      go_wp2_with fail
      go_ret
      refine ⟨?_, rfl⟩
      show Ending.returned (.int .i64 (x / (P : Int))) = _
      rw [HX.out, ← HP.out]
      simp
theorem typicalLaw1_callable : Callable 100 := fun args w => Tryz.call100 args w
end Go.Proofs.YtoednonijmkbjaaGreat
