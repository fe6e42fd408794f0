/- Lemmas. -/
import Derived.Test.YtfpphfjlpgefaaaQAM15
import Derived.Test.YtfpphfjlpgefaaaQAG2
set_option linter.unusedSimpArgs false
set_option linter.unusedVariables false
namespace Go.Proofs.Ytfpphfjlpgefaaa
open Go.RowKit

def numQ : List (Int × List Int) → Nat
  | [] => 0
  | p :: ps => 1 + p.2.length + numQ ps
theorem numQ_app (a b : List (Int × List Int)) : numQ (a ++ b) = numQ a + numQ b := by
  induction a with
  | nil => simp [numQ]
  | cons r a ih => simp only [List.cons_append, numQ, ih]; omega
theorem numQ_take (ps : List (Int × List Int)) (k : Nat) (hk : k < ps.length) : numQ (ps.take (k + 1)) = numQ (ps.take k) + (1 + ps[k].2.length) := by
  rw [List.take_succ_eq_append_getElem hk, numQ_app]; simp [numQ]
theorem numQ_le (ps : List (Int × List Int)) (k : Nat) : numQ (ps.take k) ≤ numQ ps := by
  have := numQ_app (ps.take k) (ps.drop k)
  rw [List.take_append_drop] at this
  omega
theorem rowQ_le {ps : List (Int × List Int)} {k : Nat} (hk : k < ps.length) : 1 + ps[k].2.length + numQ (ps.take k) ≤ numQ ps := by
  have h1 := numQ_take ps k hk
  have h2 := numQ_le ps (k + 1)
  omega
theorem lenQ_le (ps : List (Int × List Int)) : ps.length ≤ numQ ps := by
  induction ps with
  | nil => simp [numQ]
  | cons p ps ih => simp only [List.length_cons, numQ]; omega
theorem numQ_map {m : Int} {n : Nat} {xss : List (List Int)} (h : ∀ x ∈ xss, x.length ≤ n) : numQ (xss.map (fun x => (m, x))) ≤ xss.length * (n + 1) := by
  induction xss with
  | nil => simp [numQ]
  | cons x xss ih =>
    have h1 := h x (by simp)
    have h2 := ih (fun y hy => h y (by simp [hy]))
    simp only [List.map_cons, numQ, List.length_cons, Nat.add_mul]
    omega
def iotaQ (k : Int) : List (Int × List Int) → List (Int × List Int)
  | [] => []
  | p :: ps => (k, iota (k + 1) p.2.length) :: iotaQ (k + 1 + p.2.length) ps
theorem iotaQ_len (k : Int) (ps : List (Int × List Int)) : (iotaQ k ps).length = ps.length := by
  induction ps generalizing k with
  | nil => rfl
  | cons r rs ih => simp [iotaQ, ih]
theorem iotaQ_app (k : Int) (a b : List (Int × List Int)) : iotaQ k (a ++ b) = iotaQ k a ++ iotaQ (k + numQ a) b := by
  induction a generalizing k with
  | nil => simp [iotaQ, numQ]
  | cons r a ih =>
    simp only [List.cons_append, iotaQ, ih, numQ]
    congr 3
    omega
theorem iotaQ_get (k : Int) (ps : List (Int × List Int)) (i : Nat) (hi : i < ps.length) : (iotaQ k ps)[i]? = some (k + numQ (ps.take i), iota (k + numQ (ps.take i) + 1) ps[i].2.length) := by
  have h : ps = ps.take i ++ (ps[i] :: ps.drop (i + 1)) := by rw [← List.drop_eq_getElem_cons hi, List.take_append_drop]
  have e : iotaQ k ps = iotaQ k (ps.take i) ++ ((k + numQ (ps.take i), iota (k + numQ (ps.take i) + 1) ps[i].2.length) :: iotaQ (k + numQ (ps.take i) + 1 + ps[i].2.length) (ps.drop (i + 1))) := by
    conv => lhs; rw [h]
    rw [iotaQ_app]; rfl
  rw [e, List.getElem?_append_right (by rw [iotaQ_len]; simp; omega)]
  rw [iotaQ_len, List.length_take, show min i ps.length = i by omega]; simp
def markedQ (ps : List (Int × List Int)) (k : Int) (i : Nat) : List (Int × List Int) := iotaQ k (ps.take i) ++ ps.drop i
theorem markedQ_0 (ps : List (Int × List Int)) (k : Int) : markedQ ps k 0 = ps := by simp [markedQ, iotaQ]
theorem markedQ_all (ps : List (Int × List Int)) (k : Int) : markedQ ps k ps.length = iotaQ k ps := by simp [markedQ]
theorem markedQ_get (ps : List (Int × List Int)) (k : Int) (i : Nat) (hi : i < ps.length) : (markedQ ps k i)[i]? = some ps[i] := by
  unfold markedQ
  rw [List.getElem?_append_right (by rw [iotaQ_len]; simp; omega), iotaQ_len]
  simp [show min i ps.length = i by omega, hi]
theorem markedQ_set (ps : List (Int × List Int)) (k : Int) (i : Nat) (hi : i < ps.length) (x : Int × List Int) : ((markedQ ps k i).set i x).set i (k + numQ (ps.take i), iota (k + numQ (ps.take i) + 1) ps[i].2.length) = markedQ ps k (i + 1) := by
  rw [List.set_set]
  unfold markedQ
  rw [List.drop_eq_getElem_cons hi, List.set_append_right _ _ (by rw [iotaQ_len]; simp; omega), iotaQ_len, List.length_take, show i - min i ps.length = 0 by omega, List.set_cons_zero, List.take_succ_eq_append_getElem hi, iotaQ_app]
  simp [iotaQ]
def eqQB (ps qs : List (Int × List Int)) : Bool := decide (ps = qs)
theorem eqQB_self (ps : List (Int × List Int)) : eqQB ps ps = true := by simp [eqQB]
theorem OwPR.rd {lo hi : Nat} {w : World} {v : Value} {ps : List (Int × List Int)} (h : OwPR lo hi w v ps) : RdM w v ps := OwP.rd h
def RdsM (lo hi : Nat) (w : World) (v : Value) (ps : List (Int × List Int)) : Prop := ∀ x : World, (∀ k, lo ≤ k → k < hi → x.heap[k]? = w.heap[k]?) → RdM x v ps
theorem RdsM.rd {lo hi : Nat} {w : World} {v : Value} {ps : List (Int × List Int)} (h : RdsM lo hi w v ps) : RdM w v ps := h w (fun _ _ _ => rfl)
theorem Lives.rdsM {lo hi : Nat} {w : World} {v : Value} {ps : List (Int × List Int)} (h : Rds lo hi w (fun x => RdM x v ps)) : Lives lo hi w (fun u => RdsM lo hi u v ps) :=
  ⟨fun x hx => h.2 x hx, h.1, fun u u' hk hF x hx => hF x (fun k h1 h2 => (hx k h1 h2).trans (hk k h1 h2))⟩
theorem RdM.shape {w : World} {v : Value} {ps : List (Int × List Int)} (h : RdM w v ps) : ∃ o c, v = .slice o ps.length c := by
  obtain ⟨o, c, h, -⟩ := h; exact ⟨o, c, h⟩
theorem Rds.shape {lo hi : Nat} {w : World} {v : Value} {ps : List (Int × List Int)} (h : Rds lo hi w (fun x => RdM x v ps)) : ∃ o c, v = .slice o ps.length c := RdM.shape h.now

theorem eqSeriesSelf_c (m : Int) (v u : Value) (xs : List Int) (w : World) (hv : RdI w v xs) (hu : RdI w u xs) :
    Calls Try.prog 21 #[.agg #[.int .i64 m, v], .agg #[.int .i64 m, u]] w fun e w' => e = .returned (.bool true) ∧ Below w.heap.size w w' := by
  have h := eqSeries_c m m v u xs xs w hv hu
  rw [eqSB_self] at h
  exact h
set_option maxHeartbeats 1000000 in
theorem eqSeriesS_c (v u : Value) (ps qs : List (Int × List Int)) (w : World) (hv : RdM w v ps) (hu : RdM w u qs) (hq : ps = qs := by rfl) :
    Calls Try.prog 8 #[v, u] w fun e w' => e = .returned (.bool (eqQB ps qs)) ∧ Below w.heap.size w w' := by
  subst hq
  rw [eqQB_self]
  obtain ⟨o, c, rfl, hm, -⟩ := id hv
  obtain ⟨o', c', rfl, hm', -⟩ := id hu
  unfold maxLen at hm hm'
  have hne : (((ps.length:Nat):Int) != ((ps.length:Nat):Int)) = false := by simp
  go_enter Try.func8, Try.ntmps8
  go_wp2
  go_loopw [5] (fun i wr => ∃ k : Nat, k ≤ ps.length ∧ i = .int .i64 k ∧ Below w.heap.size w wr) (fun i _ => ps.length - (intOf i).toNat)
  case atStart => exact ⟨0, Nat.zero_le _, rfl, Below.refl _ _⟩
  case round =>
    obtain ⟨k, hk, rfl, hB⟩ := hrel
    by_cases hlt : k < ps.length
    · have hvr := hv.below hB (Nat.le_refl _)
      have hur := hu.below hB (Nat.le_refl _)
      have hBs := hB.size
      obtain ⟨b, off, rfl⟩ := hvr.base (by omega)
      obtain ⟨b', off', rfl⟩ := hur.base (by omega)
      obtain ⟨o1, c1, x0, x1, hx⟩ := hvr.at hlt
      obtain ⟨o2, c2, y0, y1, hy⟩ := hur.at hlt
      have i0 : (0 : Int) ≤ (k : Int) := by omega
      have i1 : (k : Int) < (ps.length : Int) := by omega
      go_wp2_with fail
      have hd0 : Below wr.heap.size wr wr.drew := (Below.refl _ _).drew
      have hsd0 := hd0.size
      have f0_a := keep_cell hd0 (Nat.le_refl _) x0
      have f0_b := keep_cell hd0 (Nat.le_refl _) x1
      have f0_c := keep_cell hd0 (Nat.le_refl _) y0
      have f0_d := keep_cell hd0 (Nat.le_refl _) y1
      refine wp_region_K (S := fun w' => w'.cell? ⟨b, off + k * 2, none⟩ = some (.int .i64 ps[k].1) ∧ w'.cell? ⟨b, off + k * 2 + 1, none⟩ = some (.slice o1 ps[k].2.length c1) ∧ w'.cell? ⟨b', off' + k * 2, none⟩ = some (.int .i64 ps[k].1) ∧ w'.cell? ⟨b', off' + k * 2 + 1, none⟩ = some (.slice o2 ps[k].2.length c2)) [] (by kernel_rfl) ?_
      have hHeld : (fun w' : World => w'.cell? ⟨b, off + k * 2, none⟩ = some (.int .i64 ps[k].1) ∧ w'.cell? ⟨b, off + k * 2 + 1, none⟩ = some (.slice o1 ps[k].2.length c1) ∧ w'.cell? ⟨b', off' + k * 2, none⟩ = some (.int .i64 ps[k].1) ∧ w'.cell? ⟨b', off' + k * 2 + 1, none⟩ = some (.slice o2 ps[k].2.length c2)) wr.drew := by go_keep
      refine' wpAnyK_takeL (i := 0) (v := _) rfl (by kernel_rfl) (by kernel_rfl) (by kernel_rfl) (by kernel_rfl) (fun _ _ _ h => h) (Or.inl ⟨by rfl, ?yT1⟩) hHeld ?rT1
      case yT1 => (intro w' hSw; (try dsimp only at hSw); go_simp; try with_reducible rfl)
      try simp only [List.getElem_toArray, List.getElem_cons_zero, List.getElem_cons_succ, Act.put, List.setIfInBounds_toArray, List.set_cons_zero, List.set_cons_succ]
      refine' wpAnyK_takeL (i := 1) (v := _) rfl (by kernel_rfl) (by kernel_rfl) (by kernel_rfl) (by kernel_rfl) (fun _ _ _ h => h) (Or.inl ⟨by rfl, ?yT2⟩) hHeld ?rT2
      case yT2 => (intro w' hSw; (try dsimp only at hSw); go_simp; try with_reducible rfl)
      try simp only [List.getElem_toArray, List.getElem_cons_zero, List.getElem_cons_succ, Act.put, List.setIfInBounds_toArray, List.set_cons_zero, List.set_cons_succ]
      refine' wpAnyK_takeL (i := 2) (v := _) rfl (by kernel_rfl) (by kernel_rfl) (by kernel_rfl) (by kernel_rfl) (fun _ _ _ h => h) (Or.inl ⟨by rfl, ?yT3⟩) hHeld ?rT3
      case yT3 => (intro w' hSw; (try dsimp only at hSw); go_simp; try with_reducible rfl)
      try simp only [List.getElem_toArray, List.getElem_cons_zero, List.getElem_cons_succ, Act.put, List.setIfInBounds_toArray, List.set_cons_zero, List.set_cons_succ]
      refine' wpAnyK_takeL (i := 3) (v := _) rfl (by kernel_rfl) (by kernel_rfl) (by kernel_rfl) (by kernel_rfl) (fun _ _ _ h => h) (Or.inl ⟨by rfl, ?yT4⟩) hHeld ?rT4
      case yT4 => (intro w' hSw; (try dsimp only at hSw); go_simp; try with_reducible rfl)
      try simp only [List.getElem_toArray, List.getElem_cons_zero, List.getElem_cons_succ, Act.put, List.setIfInBounds_toArray, List.set_cons_zero, List.set_cons_succ]
      refine' wpAnyK_takeL (i := 4) (v := _) rfl (by kernel_rfl) (by kernel_rfl) (by kernel_rfl) (by kernel_rfl) (fun _ _ _ h => h) (Or.inl ⟨by rfl, ?yT5⟩) hHeld ?rT5
      case yT5 => (intro w' hSw; (try dsimp only at hSw); go_simp; try with_reducible rfl)
      try simp only [List.getElem_toArray, List.getElem_cons_zero, List.getElem_cons_succ, Act.put, List.setIfInBounds_toArray, List.set_cons_zero, List.set_cons_succ]
      refine' wpAnyK_takeL (i := 5) (v := _) rfl (by kernel_rfl) (by kernel_rfl) (by kernel_rfl) (by kernel_rfl) (fun _ _ _ h => h) (Or.inl ⟨by rfl, ?yT6⟩) hHeld ?rT6
      case yT6 => (intro w' hSw; (try dsimp only at hSw); go_simp; try with_reducible rfl)
      try simp only [List.getElem_toArray, List.getElem_cons_zero, List.getElem_cons_succ, Act.put, List.setIfInBounds_toArray, List.set_cons_zero, List.set_cons_succ]
      refine' wpAnyK_takeL (i := 6) (v := _) rfl (by kernel_rfl) (by kernel_rfl) (by kernel_rfl) (by kernel_rfl) (fun _ _ _ h => h) (Or.inl ⟨by rfl, ?yT7⟩) hHeld ?rT7
      case yT7 => (intro w' hSw; (try dsimp only at hSw); go_simp; try with_reducible rfl)
      try simp only [List.getElem_toArray, List.getElem_cons_zero, List.getElem_cons_succ, Act.put, List.setIfInBounds_toArray, List.set_cons_zero, List.set_cons_succ]
      refine' wpAnyK_takeL (i := 7) (v := _) rfl (by kernel_rfl) (by kernel_rfl) (by kernel_rfl) (by kernel_rfl) (fun _ _ _ h => h) (Or.inl ⟨by rfl, ?yT8⟩) hHeld ?rT8
      case yT8 => (intro w' hSw; (try dsimp only at hSw); go_simp; try with_reducible rfl)
      try simp only [List.getElem_toArray, List.getElem_cons_zero, List.getElem_cons_succ, Act.put, List.setIfInBounds_toArray, List.set_cons_zero, List.set_cons_succ]
      refine wpAnyK_oneL (i := 8) rfl (by kernel_rfl) (fun K hK => ?_)
      go_simp
      go_at_call 21
      refine (eqSeriesSelf_c _ _ _ ps[k].2 _ ((hx).below (by (repeat (first | exact bR _ _ | (refine bS ?_ _) | (refine bA ?_ _) | (refine bN ?_ _) | (refine bD ?_)))) (Nat.le_refl _)) ((hy).below (by (repeat (first | exact bR _ _ | (refine bS ?_ _) | (refine bA ?_ _) | (refine bN ?_ _) | (refine bD ?_)))) (Nat.le_refl _))).mono ?_
      rintro e wd1 ⟨rfl, hbd1⟩
      have hd1 : Below wr.heap.size wr wd1 := (by (repeat (first | exact bR _ _ | (refine bS ?_ _) | (refine bA ?_ _) | (refine bN ?_ _) | (refine bD ?_) | (refine bT ?_ hbd1))))
      have hsd1 := hd1.size
      have hsz1_ := hbd1.size
      (try simp at hsz1_)
      have f1_a := keep_cell hd1 (Nat.le_refl _) x0
      have f1_b := keep_cell hd1 (Nat.le_refl _) x1
      have f1_c := keep_cell hd1 (Nat.le_refl _) y0
      have f1_d := keep_cell hd1 (Nat.le_refl _) y1
      go_wp2_with fail
      clear hHeld
      have hHeld : (fun w' : World => w'.cell? ⟨b, off + k * 2, none⟩ = some (.int .i64 ps[k].1) ∧ w'.cell? ⟨b, off + k * 2 + 1, none⟩ = some (.slice o1 ps[k].2.length c1) ∧ w'.cell? ⟨b', off' + k * 2, none⟩ = some (.int .i64 ps[k].1) ∧ w'.cell? ⟨b', off' + k * 2 + 1, none⟩ = some (.slice o2 ps[k].2.length c2)) wd1 := by go_keep
      refine hK.out _ _ (fun _ => hHeld) ?_
      clear hK K
      try simp only [List.getElem_toArray, List.getElem_cons_zero, List.getElem_cons_succ, Act.put, List.setIfInBounds_toArray, List.set_cons_zero, List.set_cons_succ]
      refine' wpAnyK_takeL (i := 9) (v := _) rfl (by kernel_rfl) (by kernel_rfl) (by kernel_rfl) (by kernel_rfl) (fun _ _ _ h => h) (Or.inl ⟨by rfl, ?yT9⟩) hHeld ?rT9
      case yT9 => (intro w' hSw; (try dsimp only at hSw); go_simp; try with_reducible rfl)
      try simp only [List.getElem_toArray, List.getElem_cons_zero, List.getElem_cons_succ, Act.put, List.setIfInBounds_toArray, List.set_cons_zero, List.set_cons_succ]
      refine wpAnyK_done (by kernel_rfl) ?_ _
      go_wp2_with fail
      go_wp2
      exact ⟨⟨k + 1, by omega, by go_num, hB.trans (hd1.mono hBs)⟩, by simp [intOf]; omega⟩
    · go_wp2
      go_ret
      exact ⟨rfl, hB⟩

set_option maxHeartbeats 1000000 in
theorem markSeriesS_c (v : Value) (ps : List (Int × List Int)) (k0 : Int) (lo hi : Nat) (w : World) (hv : OwPR lo hi w v ps) (hhi : hi ≤ w.heap.size) (hn : numQ ps ≤ 1048576) (h0 : 0 ≤ k0) (h1 : k0 ≤ 549755813888) :
    Calls Try.prog 11 #[v, .int .i64 k0] w fun e w' => e = .returned (.int .i64 (k0 + numQ ps)) ∧ OwPR lo hi w' v (iotaQ k0 ps) ∧ Chg lo hi w w' := by
  obtain ⟨o, c, rfl⟩ := OwP.shape hv
  have hnl := lenQ_le ps
  go_enter Try.func11, Try.ntmps11
  go_wp2
  go_loopw [1, 5] (fun kk i wr => ∃ k : Nat, k ≤ ps.length ∧ i = .int .i64 k ∧ kk = .int .i64 (k0 + numQ (ps.take k)) ∧ OwPR lo hi wr (.slice o ps.length c) (markedQ ps k0 k) ∧ Chg lo hi w wr) (fun _ i _ => ps.length - (intOf i).toNat)
  case atStart => exact ⟨0, Nat.zero_le _, rfl, by simp [numQ], by rw [markedQ_0]; exact hv, Chg.refl _ _ _⟩
  case round =>
    obtain ⟨k, hk, rfl, rfl, hO, hC⟩ := hrel
    by_cases hlt : k < ps.length
    · obtain ⟨g, rfl, hgl, hgl'⟩ := OwP.row0 hO (by omega)
      have hq := markedQ_get ps k0 k hlt
      obtain ⟨o1, c1, x0, x1, -, -, hfz, -⟩ := OwPR.at hO hq
      have hO1 := OwPR.setM hO hq (k0 + (numQ (ps.take k) : Int))
      have hq1 : ((markedQ ps k0 k).set k (k0 + (numQ (ps.take k) : Int), ps[k].2))[k]? = some (k0 + (numQ (ps.take k) : Int), ps[k].2) := by
        rw [List.getElem?_set, if_pos rfl, if_pos (List.getElem?_eq_some_iff.1 hq).1]
      obtain ⟨o2, c2, y0, y1, how, hbl, -, hset⟩ := OwPR.at hO1 hq1
      have HM := Lib.hid (markedQ_set ps k0 k hlt (k0 + (numQ (ps.take k) : Int), ps[k].2))
      have HN := Lib.hid (numQ_take ps k hlt)
      have hrow := rowQ_le hlt
      have HS := Lib.hid hset
      have HB := Lib.hid hbl
      have hgh : g < hi := by
        have := hO.notX g rfl
        omega
      have hC1 := Lib.hid (hC.trans (Chg.of_grown (grown_put wr g (k * 2) (.int .i64 (k0 + (numQ (ps.take k) : Int)))) (fun b hb => by cases hb; exact ⟨hgl, hgh⟩)))
      clear hset hbl hq hq1 hO hC
      have i0 : (0 : Int) ≤ (k : Int) := by omega
      have i1 : (k : Int) < (ps.length : Int) := by omega
      have e1 : IntKind.i64.wrap (k0 + (numQ (ps.take k) : Int)) = k0 + (numQ (ps.take k) : Int) := IntWalk.i64_in _ (by omega)
      go_wp2_with fail
      refine (markInt64S_c _ ps[k].2 _ lo _ how (by omega) (by omega) (by omega)).mono ?_
      rintro e w2 ⟨rfl, ho2, hg2, -⟩
      have hO2 := HS.out w2 _ (iota_len _ _) hg2 ho2
      rw [HM.out] at hO2
      have hC2 := hC1.out.trans (Chg.of_grown hg2 (fun b hb => ⟨(HB.out b hb).1, (HB.out b hb).2.1⟩))
      clear ho2 hg2
      go_wp2
      exact ⟨⟨k + 1, by omega, by go_num, by rw [HN.out]; go_num, hO2, hC2⟩, by simp [intOf]; omega⟩
    · obtain rfl : k = ps.length := by omega
      rw [markedQ_all] at hO
      go_wp2
      go_ret
      exact ⟨ret_int (by rw [List.take_length]), hO, hC⟩

set_option maxHeartbeats 1000000 in
theorem heldSeriesS_c (v : Value) (ps : List (Int × List Int)) (k0 : Int) (w : World) (hv : RdM w v (iotaQ k0 ps)) (hn : numQ ps ≤ 1048576) (h0 : 0 ≤ k0) (h1 : k0 ≤ 549755813888) :
    Calls Try.prog 12 #[v, .int .i64 k0] w fun e w' => e = .returned (.int .i64 (k0 + numQ ps)) ∧ Below w.heap.size w w' := by
  obtain ⟨o, c, rfl, hm, -⟩ := id hv
  rw [iotaQ_len] at *
  unfold maxLen at hm
  have hnl := lenQ_le ps
  go_enter Try.func12, Try.ntmps12
  go_wp2
  go_loopw [1, 5] (fun kk i wr => ∃ k : Nat, k ≤ ps.length ∧ i = .int .i64 k ∧ kk = .int .i64 (k0 + numQ (ps.take k)) ∧ ∃ d, wr = w.drewN d) (fun _ i _ => ps.length - (intOf i).toNat)
  case atStart => exact ⟨0, Nat.zero_le _, rfl, by simp [numQ], 0, rfl⟩
  case round =>
    obtain ⟨k, hk, rfl, rfl, d, rfl⟩ := hrel
    by_cases hlt : k < ps.length
    · obtain ⟨b, off, rfl⟩ := hv.base (by rw [iotaQ_len]; omega)
      have hq := iotaQ_get k0 ps k hlt
      obtain ⟨o1, c1, x0, x1, hx⟩ := hv.at (show k < (iotaQ k0 ps).length by rw [iotaQ_len]; omega)
      rw [(List.getElem?_eq_some_iff.1 hq).2] at x0 x1 hx
      have HN := Lib.hid (numQ_take ps k hlt)
      have hrow := rowQ_le hlt
      rw [iota_len] at x1 hx
      have i0 : (0 : Int) ≤ (k : Int) := by omega
      have i1 : (k : Int) < (ps.length : Int) := by omega
      have hpos : ¬ k0 + (numQ (ps.take k) : Int) + 1 + (ps[k].2.length : Int) < 0 := by omega
      clear hq
      go_wp2_with (go_at_call 25; refine (heldInt64S_c _ ps[k].2.length _ _ (show RdI (w.drewN d) _ _ from hx) (by omega) (by omega) (by omega)).mono ?_; rintro e w2 ⟨rfl, d2, rfl⟩)
      exact ⟨⟨k + 1, by omega, by go_num, by rw [HN.out]; go_num, d + d2, by simp⟩, by simp [intOf]; omega⟩
    · obtain rfl : k = ps.length := by omega
      go_wp2
      go_ret
      exact ⟨ret_int (by rw [List.take_length]), below_drewN (Below.refl _ _) _⟩
end Go.Proofs.Ytfpphfjlpgefaaa
set_option linter.unusedSimpArgs false
set_option linter.unusedVariables false
namespace Go.Proofs.Ytfpphfjlpgefaaa
open Go.RowKit

def OwQ (w : World) (lo hi : Nat) (v : Value) (m : Int) (xss : List (List Int)) : Prop :=
  ∃ us : List Value, us.length = xss.length ∧ w.ownsRow hi 41 2 v xss.length (pairsV m us) ∧
    (∀ (k : Nat) (u : Value) (row : List Int), us[k]? = some u → xss[k]? = some row → Rds lo hi w (fun x => RdI x u row))
theorem OwQ.shape {w : World} {lo hi : Nat} {v : Value} {m : Int} {xss : List (List Int)} (h : OwQ w lo hi v m xss) : ∃ o c, v = .slice o xss.length c := by
  obtain ⟨us, hl, ⟨_, hr⟩, -⟩ := h
  rcases hr with ⟨rfl, h0⟩ | ⟨g, cap, cur, rfl, -⟩
  · exact ⟨none, 0, by rw [h0]⟩
  · exact ⟨_, _, rfl⟩
theorem OwQ.below {w w' : World} {lo hi : Nat} {v : Value} {m : Int} {xss : List (List Int)} (h : OwQ w lo hi v m xss) (hb : Below w.heap.size w w') : OwQ w' lo hi v m xss := by
  obtain ⟨us, hl, hr, h1⟩ := h
  refine ⟨us, hl, hr.kept (row := none) ⟨hb.os, hb.tape, hb.output, hb.size, fun k hk _ => hb.block k hk⟩ (by cases e : v.ownBlock <;> simp), fun k u row hu hx => (h1 k u row hu hx).below hb⟩
theorem OwQ.nil (w : World) {lo hi : Nat} (m : Int) (hB : hi ≤ w.heap.size) : OwQ (w.alloc (.cells #[] 41)) lo hi (.slice (some ⟨w.heap.size, 0, none⟩) 0 0) m [] :=
  ⟨[], rfl, World.ownsRow_lit (base := hi) (e := 41) (size := 2) w #[] 0 hB (Nat.zero_le _) rfl, by simp⟩
theorem OwQ.rds {w : World} {lo hi : Nat} {v : Value} {m : Int} {xss : List (List Int)} (h : OwQ w lo hi v m xss) (hh : lo ≤ hi) : Rds lo w.heap.size w (fun x => RdM x v (xss.map (fun r => (m, r)))) := by
  refine ⟨Nat.le_refl _, fun x hx => ?_⟩
  obtain ⟨us, hl, hr, h1⟩ := h
  rcases id hr.2 with ⟨rfl, h0⟩ | ⟨g, cap, cur, rfl, hg, hh', hn, hcm, hcs, ht⟩
  · have : xss = [] := List.eq_nil_of_length_eq_zero h0
    subst this
    exact ⟨none, 0, rfl, ⟨Nat.zero_le _, Nat.zero_le _, fun _ => rfl⟩, fun k row hx => by simp at hx⟩
  · have hgl : g < w.heap.size := (Array.getElem?_eq_some_iff.1 hh').1
    have e0 : ∀ j, x.cell? ⟨g, j, none⟩ = w.cell? ⟨g, j, none⟩ := fun j => World.cell?_of_block (hx g (by omega) hgl)
    refine ⟨some ⟨g, 0, none⟩, cap, by rw [List.length_map], ⟨by rw [List.length_map]; omega, by rw [List.length_map]; exact hn, fun h => by cases h⟩, fun k p hp => ?_⟩
    rw [List.getElem?_map] at hp
    obtain ⟨row, hrow, rfl⟩ := Option.map_eq_some_iff.1 hp
    have hk : k < xss.length := (List.getElem?_eq_some_iff.1 hrow).1
    have hu : us[k]? = some us[k] := by simp [hl, hk]
    refine ⟨g, 0, us[k], rfl, ?_, ?_, (h1 k _ row hu hrow).2 x (fun j h1' h2' => hx j h1' (by have := (h1 k _ row hu hrow).1; omega))⟩
    · rw [e0, Nat.zero_add, World.ownsRow.cellAt hr (k * 2) (by omega)]; exact pairsV_0 m us k (by omega)
    · rw [e0, Nat.zero_add, World.ownsRow.cellAt hr (k * 2 + 1) (by omega), pairsV_1]; exact hu

section
variable {ops : Array Oper} {rest : List Oper} {o : Oper} {a : Act} {Q : Exit → Act → World → Prop}
theorem wpApQ {K : Act → World → Prop} (W : World) (s x : Operand) (hop : o.op = .call { callee := .builtin .append, args := #[s, x], argTypes := #[26, 26] })
    (lo hi : Nat) (v : Value) (m : Int) (xss : List (List Int)) (hs : a.eval s = v) (hown : OwQ W lo hi v m xss) (hB : hi ≤ W.heap.size) (u : Value) (row : List Int) (k : Nat) (hx : a.eval x = .slice (some ⟨k, 0, none⟩) 1 1)
    (hc0 : W.cell? ⟨k, 0, none⟩ = some (.int .i64 m)) (hc1 : W.cell? ⟨k, 1, none⟩ = some u) (hone : u.oneCell' = true) (hu : Rds lo hi W (fun x => RdI x u row)) (hn : xss.length < 1048576)
    (hK : ∀ g cap w', OwQ w' lo hi (.slice (some ⟨g, 0, none⟩) (xss.length + 1) cap) m (xss ++ [row]) → Below hi W w' → K (a.put o.dst (.slice (some ⟨g, 0, none⟩) (xss.length + 1) cap)) w') :
    Oper.wp Try.prog o a W K Q := by
  obtain ⟨i0, hi', hz0, hz1, hz2⟩ := info_parts info_S
  obtain ⟨us, hl, hr, h1⟩ := hown
  refine wp_append_lies W s x 26 hop hi 41 i0 (.agg #[.int .i64 0, .slice none 0 0]) 2 32 Try.underlying26 hi' hz0 hz1 hz2 rfl (by decide) v xss.length (pairsV m us) hs hr ⟨k, 0, none⟩ 1 1 [.int .i64 m, u] hx rfl (fun j u' hj => ?_) (fun u' hu' => ?_) (by decide) (by unfold maxLen; omega) (by omega) hB W.heap.size rfl ?_
  · match j with
    | 0 => simp at hj; subst hj; simpa [Addr.add] using hc0
    | 1 => simp at hj; subst hj; simpa [Addr.add] using hc1
    | j + 2 => simp at hj
  · simp at hu'; rcases hu' with rfl | rfl
    · rfl
    · exact hone
  · intro g cap w' hown' hgrow hlies hglt
    have hgb : Below hi W w' := Below.grown (Below.refl hi W) hgrow hB (fun b hb => (hr.lt b hb).1)
    have hvb : ∀ b : Nat, v.ownBlock = some b → b < lo ∨ hi ≤ b := fun b hb => .inr (hr.lt b hb).1
    refine hK g cap w' ⟨us ++ [u], by simp [hl], by rw [List.length_append, pairsV_app]; exact hown', fun i u' r hi' hxi => ?_⟩ hgb
    rw [List.getElem?_append] at hi' hxi
    by_cases hil : i < us.length
    · rw [if_pos hil] at hi'
      rw [if_pos (by omega)] at hxi
      exact (h1 i u' r hi' hxi).grown hgrow hvb
    · rw [if_neg hil] at hi'
      rw [if_neg (by omega)] at hxi
      have e1 : i - us.length = 0 := by
        have := (List.getElem?_eq_some_iff.1 hi').1; simp at this; omega
      rw [show i - xss.length = 0 by omega] at hxi
      rw [e1] at hi'
      simp at hi' hxi
      subst hi' hxi
      exact hu.grown hgrow hvb
theorem stQ {K : Act → World → Prop} {E : Prop} (W : World) (hg : o.guard = none) (s x : Operand) (hop : o.op = .call { callee := .builtin .append, args := #[s, x], argTypes := #[26, 26] })
    (lo hi : Nat) (v : Value) (m : Int) (xss : List (List Int)) (hs : a.eval s = v) (hown : OwQ W lo hi v m xss) (hB : hi ≤ W.heap.size) (u : Value) (row : List Int) (k : Nat) (hx : a.eval x = .slice (some ⟨k, 0, none⟩) 1 1)
    (hc0 : W.cell? ⟨k, 0, none⟩ = some (.int .i64 m)) (hc1 : W.cell? ⟨k, 1, none⟩ = some u) (hone : u.oneCell' = true) (hu : Rds lo hi W (fun x => RdI x u row)) (hn : xss.length < 1048576)
    (hK : ∀ g cap w', OwQ w' lo hi (.slice (some ⟨g, 0, none⟩) (xss.length + 1) cap) m (xss ++ [row]) → Below hi W w' → K (a.put o.dst (.slice (some ⟨g, 0, none⟩) (xss.length + 1) cap)) w') :
    if Region.wanted o (yielded ops a.tmps) = true then Oper.wp Try.prog o a W K Q else E := by
  have hw : Region.wanted o (yielded ops a.tmps) = true := by simp [Region.wanted, hg]
  rw [if_pos hw]
  exact wpApQ W s x hop lo hi v m xss hs hown hB u row k hx hc0 hc1 hone hu hn hK
end
end Go.Proofs.Ytfpphfjlpgefaaa
