/- Lemmas. -/
import Derived.Test.YtfpphfjlpgefaaaQAM12
set_option linter.unusedSimpArgs false
set_option linter.unusedVariables false
namespace Go.Proofs.Ytfpphfjlpgefaaa
open Go.RowKit

def fitG (m : Int) (t s : List (List Int)) (xs : List Int) : Bool := homB m xs.length (cutT xs.length t) (cutT xs.length s) xs
def stepG (m : Int) (n most : Nat) (t s : List (List Int)) (d : Nat) (pre : List Int) (out : List (List Int)) (c : Nat) : List (List Int) :=
  if out.length < most then (if fitG m t s (pre ++ [(c : Int)]) then growL m.toNat n most (fitG m t s) d (pre ++ [(c : Int)]) out else out) else out
def foldG (m : Int) (n most : Nat) (t s : List (List Int)) (d : Nat) (pre : List Int) (out : List (List Int)) (c : Nat) : List (List Int) := (List.range c).foldl (stepG m n most t s d pre) out
theorem foldG_succ (m : Int) (n most : Nat) (t s : List (List Int)) (d : Nat) (pre : List Int) (out : List (List Int)) (c : Nat) : foldG m n most t s d pre out (c + 1) = stepG m n most t s d pre (foldG m n most t s d pre out c) c := by
  unfold foldG; rw [List.range_succ, List.foldl_append]; rfl
theorem foldG_stop {m : Int} {n most : Nat} {t s : List (List Int)} {d : Nat} {pre : List Int} {out : List (List Int)} {c : Nat} (h : ¬ (foldG m n most t s d pre out c).length < most) (k : Nat) : foldG m n most t s d pre out (c + k) = foldG m n most t s d pre out c := by
  induction k with
  | zero => rfl
  | succ k ih => rw [← Nat.add_assoc, foldG_succ, ih]; unfold stepG; rw [if_neg h]
theorem growL_fold (m : Int) (n most : Nat) (t s : List (List Int)) (d : Nat) (pre : List Int) (out : List (List Int)) : growL m.toNat n most (fitG m t s) (d + 1) pre out = foldG m n most t s d pre out m.toNat := rfl

theorem OwS.lt' {w : World} {B : Nat} {v : Value} {xss : List (List Int)} (h : OwS w B v xss) : ∀ b, v.ownBlock = some b → B ≤ b ∧ b < w.heap.size := by
  obtain ⟨us, -, h2, -⟩ := h; exact h2.lt
theorem gr_chain {v l : Value} {w0 wr w5 : World} (h : w0.grownBy wr v.ownBlock) (hown : ∀ b, l.ownBlock = some b → v.ownBlock = some b ∨ w0.heap.size ≤ b) (h2 : wr.grownBy w5 l.ownBlock) : w0.grownBy w5 v.ownBlock :=
  ⟨h2.os.trans h.os, h2.tape.trans h.tape, h2.output.trans h.output, Nat.le_trans h.size h2.size, fun k hk hne => (h2.block k (Nat.lt_of_lt_of_le hk h.size) (fun e => by
    rcases hown k e.symm with e' | e'
    · exact hne e'.symm
    · omega)).trans (h.block k hk hne)⟩

set_option maxHeartbeats 4000000 in
set_option maxRecDepth 100000 in
theorem l06Grow_c (m m' : Int) (n : Nat) (t s : List (List Int)) (hm : 2 ≤ m) (hm' : m ≤ 10000) (hn : n ≤ 1000) (ht : PlaT m n t) (hs : PlaT m n s) (most : Nat) (hmost : most ≤ 20000) :
    ∀ (d : Nat) (vf vg va v : Value) (pre : List Int) (out : List (List Int)) (B : Nat) (w : World), pre.length + d = n → 1 ≤ pre.length → at0 pre 0 = 0 → (∀ x ∈ pre, 0 ≤ x ∧ x < m) →
      Lk v w (fun u => RdT u vf t) → Lk v w (fun u => RdT u vg s) → Lk v w (fun u => RdI u va pre) → OwS w B v out → B ≤ w.heap.size → out.length < most →
      Calls Try.prog 31 #[.agg #[.int .i64 m, vf], .agg #[.int .i64 m', vg], va, .int .i64 (most : Int), v] w fun e w' =>
        ∃ v', e = .returned v' ∧ OwS w' B v' (growL m.toNat n most (fitG m t s) d pre out) ∧ w.grownBy w' v.ownBlock ∧ (∀ b, v'.ownBlock = some b → v.ownBlock = some b ∨ w.heap.size ≤ b) := by
  have HT := Lib.hid ht
  have HS := Lib.hid hs
  clear ht hs
  intro d
  induction d with
  | zero =>
    intro vf vg va v pre out B w hd h1 h0 hx hf hg ha ho hB hl
    obtain ⟨of, cf, rfl, -, -⟩ := hf.now
    obtain ⟨og, cg, rfl, -, -⟩ := hg.now
    obtain ⟨oa, ca, rfl, hma, -⟩ := ha.now
    obtain ⟨ov, cv, rfl⟩ := ho.shape
    have HTl := HT.out.1
    have hvl := ho.toR
    obtain ⟨ba, fa, rfl, -⟩ := ha.now.cells (by omega)
    unfold maxLen at hma
    rw [HTl]
    have i0 : ((pre.length : Int) == (n : Int)) = true := by simp; omega
    have hA := ha.now
    have HSl := HS.out.1
    rw [HSl]
    clear hf hg ha hvl
    go_enter Try.func31, Try.ntmps31
    go_wp2_with fail
    (have X0 := ((RB2.mk1 w  (.int .i64 m) (.slice of n cf) 29).1).below (w' := ((w.alloc (.cells #[.int .i64 m, .slice of n cf] 29)).alloc (.cells #[.int .i64 m', .slice og n cg] 29))) (by (repeat (first | exact bR _ _ | (refine bS ?_ _) | (refine bA ?_ _) | (refine bN ?_ _) | (refine bD ?_)))) (Nat.le_refl _); have Y0 := ((RB2.mk2 w (.cells #[.int .i64 m, .slice of n cf] 29) (.int .i64 m') (.slice og n cg) 29).1).below (w' := ((w.alloc (.cells #[.int .i64 m, .slice of n cf] 29)).alloc (.cells #[.int .i64 m', .slice og n cg] 29))) (by (repeat (first | exact bR _ _ | (refine bS ?_ _) | (refine bA ?_ _) | (refine bN ?_ _) | (refine bD ?_)))) (Nat.le_refl _); have B0 : Below w.heap.size w ((w.alloc (.cells #[.int .i64 m, .slice of n cf] 29)).alloc (.cells #[.int .i64 m', .slice og n cg] 29)) := (by (repeat (first | exact bR _ _ | (refine bS ?_ _) | (refine bA ?_ _) | (refine bN ?_ _) | (refine bD ?_)))); have hA0 := hA.below (w' := ((w.alloc (.cells #[.int .i64 m, .slice of n cf] 29)).alloc (.cells #[.int .i64 m', .slice og n cg] 29))) (by (repeat (first | exact bR _ _ | (refine bS ?_ _) | (refine bA ?_ _) | (refine bN ?_ _) | (refine bD ?_)))) (Nat.le_refl _); generalize (w.alloc (.cells #[.int .i64 m, .slice of n cf] 29)).alloc (.cells #[.int .i64 m', .slice og n cg] 29) = w0 at X0 Y0 B0 hA0 ⊢)
    have ho0 := ho.below B0
    have B0s := B0.size
    obtain ⟨x0, x1⟩ := id X0
    go_wp2_with (first
      | (go_at_call 44; go_loud (refine (l01Own_c ⟨ba, fa, none⟩ pre.length ca pre _ hA0 (by omega)).mono ?_; rintro e w1 ⟨vo, rfl, how, hb1⟩; obtain ⟨oo', co', rfl⟩ := how.shape; have hz1 := hb1.size))
      | (at_builtin; obtain ⟨W, hW⟩ : ∃ W : World, W = w1.alloc (.cells #[.slice oo' pre.length co'] 39) := ⟨_, rfl⟩; have hWb : Below w0.heap.size w0 W := (by rw [hW]; exact (by (repeat (first | exact bR _ _ | (refine bS ?_ _) | (refine bA ?_ _) | (refine bN ?_ _) | (refine bD ?_) | (refine bT ?_ hb1))))); have hT : OwSR B w0.heap.size W (.slice ov out.length cv) out := ho0.toR.stay (fun j _ hj => hWb.block j hj); have hU : OwI W w0.heap.size (.slice oo' pre.length co') pre := (by rw [hW]; exact how.alloc _); have hC : W.cell? ⟨w1.heap.size, 0, none⟩ = some (.slice oo' pre.length co') := (by rw [hW]; simp); have hWs := hWb.size; rw [← hW]; have HW := Lib.hid hW; clear hW; go_loud (refine apG W rfl _ _ rfl B w0.heap.size _ _ rfl hT (by omega) (by omega) _ _ w1.heap.size rfl hC hU (by omega) ?_; intro g2 cap w2 hO2 hgr hb2 hlie)))
    go_ret
    refine ⟨_, rfl, hO2, (gr_of_below B0).trans ((gr_of_below hWb).trans hgr), fun b hb => ?_⟩
    obtain rfl : g2 = b := by simpa [Value.ownBlock] using hb
    rcases hlie with e | e
    · exact .inl e
    · exact .inr (by omega)
  | succ d ih =>
    intro vf vg va v pre out B w hd h1 h0 hx hf hg ha ho hB hl
    obtain ⟨of, cf, rfl, -, -⟩ := hf.now
    obtain ⟨og, cg, rfl, -, -⟩ := hg.now
    obtain ⟨oa, ca, rfl, hma, -⟩ := ha.now
    obtain ⟨ov, cv, rfl⟩ := ho.shape
    have HTl := HT.out.1
    have HSl := HS.out.1
    obtain ⟨ba, fa, rfl, -⟩ := ha.now.cells (by omega)
    unfold maxLen at hma
    rw [HTl] at hf ⊢
    rw [HSl] at hg ⊢
    have i0 : ((pre.length : Int) == (n : Int)) = false := by simp; omega
    have hvl : ∀ b, (Value.slice ov out.length cv).ownBlock = some b → b < w.heap.size := fun b hb => (OwS.lt' ho b hb).2
    rw [growL_fold]
    go_enter Try.func31, Try.ntmps31
    go_wp2_with fail
    (have X0 := ((RB2.mk1 w  (.int .i64 m) (.slice of n cf) 29).1).below (w' := ((w.alloc (.cells #[.int .i64 m, .slice of n cf] 29)).alloc (.cells #[.int .i64 m', .slice og n cg] 29))) (by (repeat (first | exact bR _ _ | (refine bS ?_ _) | (refine bA ?_ _) | (refine bN ?_ _) | (refine bD ?_)))) (Nat.le_refl _); have Y0 := ((RB2.mk2 w (.cells #[.int .i64 m, .slice of n cf] 29) (.int .i64 m') (.slice og n cg) 29).1).below (w' := ((w.alloc (.cells #[.int .i64 m, .slice of n cf] 29)).alloc (.cells #[.int .i64 m', .slice og n cg] 29))) (by (repeat (first | exact bR _ _ | (refine bS ?_ _) | (refine bA ?_ _) | (refine bN ?_ _) | (refine bD ?_)))) (Nat.le_refl _); have B0 : Below w.heap.size w ((w.alloc (.cells #[.int .i64 m, .slice of n cf] 29)).alloc (.cells #[.int .i64 m', .slice og n cg] 29)) := (by (repeat (first | exact bR _ _ | (refine bS ?_ _) | (refine bA ?_ _) | (refine bN ?_ _) | (refine bD ?_)))); generalize (w.alloc (.cells #[.int .i64 m, .slice of n cf] 29)).alloc (.cells #[.int .i64 m', .slice og n cg] 29) = w0 at X0 Y0 B0  ⊢)
    have ho0 := ho.below B0
    have hf0 := hf.below B0
    have hg0 := hg.below B0
    have ha0 := ha.below B0
    have B0s := B0.size
    have lX := X0.lt
    have lY := Y0.lt
    have G0 : w.grownBy w0 (Value.slice ov out.length cv).ownBlock := gr_of_below B0
    clear hf hg ha ho
    obtain ⟨x0, x1⟩ := id X0
    go_wp2_with fail
    clear x0 x1
    go_loopw [4, 12] (fun l i wr => ∃ c : Nat, c ≤ m.toNat ∧ i = .int .i64 c ∧ OwS wr B l (foldG m n most t s d pre out c) ∧ w0.grownBy wr (Value.slice ov out.length cv).ownBlock ∧ (∀ b, l.ownBlock = some b → (Value.slice ov out.length cv).ownBlock = some b ∨ w0.heap.size ≤ b)) (fun _ i _ => m.toNat - (intOf i).toNat)
    case atStart => exact ⟨0, Nat.zero_le _, rfl, ho0, World.grownBy.refl _ _, fun b hb => .inl hb⟩
    case round =>
      obtain ⟨c, hc, rfl, hO, hgr, hown⟩ := hrel
      have hgs := hgr.size
      have Xr := X0.grown hgr (by intro e; have := hvl _ e.symm; omega)
      have Yr := Y0.grown hgr (by intro e; have := hvl _ e.symm; omega)
      obtain ⟨ol, cl, rfl⟩ := hO.shape
      have hfr := hf0.grown hgr hown
      have hgg := hg0.grown hgr hown
      have har := ha0.grown hgr hown
      have HF := Lib.hid (foldG_succ m n most t s d pre out c)
      have HStop := Lib.hid (fun h k => foldG_stop (m := m) (n := n) (most := most) (t := t) (s := s) (d := d) (pre := pre) (out := out) (c := c) h k)
      obtain ⟨q, hq⟩ : ∃ q, q = foldG m n most t s d pre out c := ⟨_, rfl⟩
      have hlq : ∀ b, (Value.slice ol q.length cl).ownBlock = some b → b < wr.heap.size := by rw [hq]; exact fun b hb => (OwS.lt' hO b hb).2
      rw [← hq] at hO hown hfr hgg har HF ⊢
      have HStop2 : ¬ q.length < most → foldG m n most t s d pre out m.toNat = q := fun h => by
        have := HStop.out (by rw [← hq]; exact h) (m.toNat - c)
        rw [show c + (m.toNat - c) = m.toNat by omega] at this
        rw [this, ← hq]
      clear HStop
      obtain ⟨x0, x1⟩ := id Xr
      by_cases hcm : c < m.toNat
      · have i1 : (c : Int) < m := by omega
        by_cases hlm : q.length < most
        · have i2 : (q.length : Int) < (most : Int) := by omega
          have hA := har.now
          have HQ := Lib.hid hq
          clear hq
          go_wp2_with (first
            | (go_at_call 44; go_loud (refine (l01Own_c ⟨ba, fa, none⟩ pre.length ca pre _ hA (by omega)).mono ?_; rintro e w1 ⟨vo, rfl, how, hb1⟩; obtain ⟨oo', co', rfl⟩ := how.shape; have hz1 := hb1.size))
            | (at_builtin; go_loud (refine apI w1 rfl _ _ rfl wr.heap.size (.slice oo' pre.length co') _ rfl how (c : Int) (by go_simp) (by omega) (by omega) ?_; intro v' w4 hO4 hgr4 hb4 hlt4; clear hgr4)))
          have hb14 : Below wr.heap.size wr w4 := hb1.trans hb4
          have h14s := hb14.size
          have X4 := Xr.below hb14 (Nat.le_refl _)
          have Y4 := Yr.below hb14 (Nat.le_refl _)
          have hf4 := hfr.below hb14
          have hg4 := hgg.below hb14
          have hO4' := hO.below hb14
          have hN4 : Lk (Value.slice ol q.length cl) w4 (fun u => RdI u v' (pre ++ [(c : Int)])) := Lk.of (OwI.rds hO4 h14s) (fun b hb => .inl (hlq b hb))
          have hg04 : w0.grownBy w4 (Value.slice ov out.length cv).ownBlock := hgr.trans (gr_of_below hb14)
          obtain ⟨on, cn, rfl⟩ := hO4.shapeN (n := pre.length + 1) (by simp)
          have hnl : (pre ++ [(c : Int)]).length = pre.length + 1 := by simp
          have hn0 : at0 (pre ++ [(c : Int)]) 0 = 0 := by rw [at0_app (by omega)]; exact h0
          have hnx : ∀ x ∈ pre ++ [(c : Int)], 0 ≤ x ∧ x < m := by
            intro x hxm
            rcases List.mem_append.1 hxm with h | h
            · exact hx x h
            · simp at h; omega
          have HFit := Lib.hid (show homB m (pre.length + 1) (cutT (pre.length + 1) t) (cutT (pre.length + 1) s) (pre ++ [(c : Int)]) = fitG m t s (pre ++ [(c : Int)]) by unfold fitG; rw [hnl])
          have hRd := hO4.rd
          have hRf := hf4.now
          have hRg := hg4.now
          have HNX := Lib.hid hnx
          have HCt := Lib.hid (cutT_ok HT.out (show pre.length + 1 ≤ n by omega))
          have HCs := Lib.hid (cutT_ok HS.out (show pre.length + 1 ≤ n by omega))
          clear hb1 hb4 how hgr hfr hgg har hO hA x0 x1 hnx Xr Yr
          have HSt := Lib.hid (show ∀ b, fitG m t s (pre ++ [(c : Int)]) = b → stepG m n most t s d pre q c = if b then growL m.toNat n most (fitG m t s) d (pre ++ [(c : Int)]) q else q from fun b hb => by unfold stepG; rw [if_pos hlm, hb])
          generalize pre ++ [(c : Int)] = nx at hO4 hN4 hnl hn0 HFit hRd HNX HSt
          go_wp2_with fail
          obtain ⟨fb, hfb⟩ : ∃ fb, fitG m t s nx = fb := ⟨_, rfl⟩
          have HFb := Lib.hid hfb
          rw [hfb] at HFit
          have HSt2 := Lib.hid (HSt.out fb hfb)
          clear hfb HSt
          have hd0 : Below w4.heap.size w4 w4.drew := (Below.refl _ _).drew
          have hsd0 := hd0.size
          obtain ⟨f0_a, f0_b⟩ := ((X4).below (Below.refl w4.heap.size w4) (Nat.le_refl _))
          obtain ⟨f0_c, f0_d⟩ := ((Y4).below (Below.refl w4.heap.size w4) (Nat.le_refl _))
          refine wp_region_K (S := fun w' => w'.cell? ⟨w.heap.size, 0, none⟩ = some (.int .i64 m) ∧ w'.cell? ⟨w.heap.size, 1, none⟩ = some (.slice of n cf) ∧ w'.cell? ⟨w.heap.size + 1, 1, none⟩ = some (.slice og n cg)) [] (by kernel_rfl) ?_
          have hHeld : (fun w' : World => w'.cell? ⟨w.heap.size, 0, none⟩ = some (.int .i64 m) ∧ w'.cell? ⟨w.heap.size, 1, none⟩ = some (.slice of n cf) ∧ w'.cell? ⟨w.heap.size + 1, 1, none⟩ = some (.slice og n cg)) w4.drew := by go_keep
          refine' wpAnyK_takeL (i := 0) (v := _) rfl (by kernel_rfl) (by kernel_rfl) (by kernel_rfl) (by kernel_rfl) (fun _ _ _ h => h) (Or.inl ⟨by rfl, ?yT1⟩) hHeld ?rT1
          case yT1 => (intro w' hSw; (try dsimp only at hSw); go_simp; try with_reducible rfl)
          try simp only [List.getElem_toArray, List.getElem_cons_zero, List.getElem_cons_succ, Act.put, List.setIfInBounds_toArray, List.set_cons_zero, List.set_cons_succ]
          refine' wpAnyK_takeL (i := 1) (v := _) rfl (by kernel_rfl) (by kernel_rfl) (by kernel_rfl) (by kernel_rfl) (fun _ _ _ h => h) (Or.inl ⟨by rfl, ?yT2⟩) hHeld ?rT2
          case yT2 => (intro w' hSw; (try dsimp only at hSw); go_simp; try with_reducible rfl)
          try simp only [List.getElem_toArray, List.getElem_cons_zero, List.getElem_cons_succ, Act.put, List.setIfInBounds_toArray, List.set_cons_zero, List.set_cons_succ]
          refine' wpAnyK_takeL (i := 2) (v := _) rfl (by kernel_rfl) (by kernel_rfl) (by kernel_rfl) (by kernel_rfl) (fun _ _ _ h => h) (Or.inl ⟨by rfl, ?yT3⟩) hHeld ?rT3
          case yT3 => (intro w' hSw; (try dsimp only at hSw); go_simp; try with_reducible rfl)
          try simp only [List.getElem_toArray, List.getElem_cons_zero, List.getElem_cons_succ, Act.put, List.setIfInBounds_toArray, List.set_cons_zero, List.set_cons_succ]
          refine' wpAnyK_takeL (i := 3) (v := _) rfl (by kernel_rfl) (by kernel_rfl) (by kernel_rfl) (by kernel_rfl) (fun _ _ _ h => h) (Or.inl ⟨by rfl, ?yT4⟩) hHeld ?rT4
          case yT4 => (intro w' hSw; (try dsimp only at hSw); go_simp; try with_reducible rfl)
          try simp only [List.getElem_toArray, List.getElem_cons_zero, List.getElem_cons_succ, Act.put, List.setIfInBounds_toArray, List.set_cons_zero, List.set_cons_succ]
          refine' wpAnyK_takeL (i := 4) (v := _) rfl (by kernel_rfl) (by kernel_rfl) (by kernel_rfl) (by kernel_rfl) (fun _ _ _ h => h) (Or.inl ⟨by rfl, ?yT5⟩) hHeld ?rT5
          case yT5 => (intro w' hSw; (try dsimp only at hSw); go_simp; try with_reducible rfl)
          try simp only [List.getElem_toArray, List.getElem_cons_zero, List.getElem_cons_succ, Act.put, List.setIfInBounds_toArray, List.set_cons_zero, List.set_cons_succ]
          refine' wpAnyK_takeL (i := 6) (v := _) rfl (by kernel_rfl) (by kernel_rfl) (by kernel_rfl) (by kernel_rfl) (fun _ _ _ h => h) (Or.inl ⟨by rfl, ?yT6⟩) hHeld ?rT6
          case yT6 => (intro w' hSw; (try dsimp only at hSw); go_simp; try with_reducible rfl)
          try simp only [List.getElem_toArray, List.getElem_cons_zero, List.getElem_cons_succ, Act.put, List.setIfInBounds_toArray, List.set_cons_zero, List.set_cons_succ]
          refine' wpAnyK_takeL (i := 7) (v := _) rfl (by kernel_rfl) (by kernel_rfl) (by kernel_rfl) (by kernel_rfl) (fun _ _ _ h => h) (Or.inl ⟨by rfl, ?yT7⟩) hHeld ?rT7
          case yT7 => (intro w' hSw; (try dsimp only at hSw); go_simp; try with_reducible rfl)
          try simp only [List.getElem_toArray, List.getElem_cons_zero, List.getElem_cons_succ, Act.put, List.setIfInBounds_toArray, List.set_cons_zero, List.set_cons_succ]
          refine' wpAnyK_takeL (i := 8) (v := _) rfl (by kernel_rfl) (by kernel_rfl) (by kernel_rfl) (by kernel_rfl) (fun _ _ _ h => h) (Or.inl ⟨by rfl, ?yT8⟩) hHeld ?rT8
          case yT8 => (intro w' hSw; (try dsimp only at hSw); go_simp; try with_reducible rfl)
          try simp only [List.getElem_toArray, List.getElem_cons_zero, List.getElem_cons_succ, Act.put, List.setIfInBounds_toArray, List.set_cons_zero, List.set_cons_succ]
          refine' wpAnyK_takeL (i := 10) (v := _) rfl (by kernel_rfl) (by kernel_rfl) (by kernel_rfl) (by kernel_rfl) (fun _ _ _ h => h) (Or.inl ⟨by rfl, ?yT9⟩) hHeld ?rT9
          case yT9 => (intro w' hSw; (try dsimp only at hSw); go_simp; try with_reducible rfl)
          try simp only [List.getElem_toArray, List.getElem_cons_zero, List.getElem_cons_succ, Act.put, List.setIfInBounds_toArray, List.set_cons_zero, List.set_cons_succ]
          refine wpAnyK_oneL (i := 5) rfl (by kernel_rfl) (fun K hK => ?_)
          go_simp
          go_at_call_of 30 (Value.slice of n cf)
          refine (l03Cut_c m (pre.length : Int) n (pre.length + 1) _ t _ ((hRf).below (by (repeat (first | exact bR _ _ | (refine bS ?_ _) | (refine bA ?_ _) | (refine bN ?_ _) | (refine bD ?_)))) (Nat.le_refl _)) HT.out (by omega) (by omega) (by omega) hn).mono ?_
          rintro e wd1 ⟨vt, rfl, hod1, hbd1⟩
          obtain ⟨ot, ct, rfl⟩ := hod1.shapeN (n := pre.length + 1) (cutT_len _ _)
          have hd1 : Below w4.heap.size w4 wd1 := (by (repeat (first | exact bR _ _ | (refine bS ?_ _) | (refine bA ?_ _) | (refine bN ?_ _) | (refine bD ?_) | (refine bT ?_ hbd1))))
          have hsd1 := hd1.size
          have hsz1_ := hbd1.size
          (try simp at hsz1_)
          obtain ⟨f1_a, f1_b⟩ := ((X4).below hd1 (Nat.le_refl _))
          obtain ⟨f1_c, f1_d⟩ := ((Y4).below hd1 (Nat.le_refl _))
          go_wp2_with fail
          clear hHeld
          have hHeld : (fun w' : World => w'.cell? ⟨w.heap.size, 0, none⟩ = some (.int .i64 m) ∧ w'.cell? ⟨w.heap.size, 1, none⟩ = some (.slice of n cf) ∧ w'.cell? ⟨w.heap.size + 1, 1, none⟩ = some (.slice og n cg)) wd1 := by go_keep
          refine hK.out _ _ (fun _ => hHeld) ?_
          clear hK K
          try simp only [List.getElem_toArray, List.getElem_cons_zero, List.getElem_cons_succ, Act.put, List.setIfInBounds_toArray, List.set_cons_zero, List.set_cons_succ]
          refine wpAnyK_oneL (i := 9) rfl (by kernel_rfl) (fun K hK => ?_)
          go_simp
          go_at_call_of 30 (Value.slice og n cg)
          refine (l03Cut_c m (pre.length : Int) n (pre.length + 1) _ s _ ((hRg).below (by (repeat (first | exact bR _ _ | (refine bS ?_ _) | (refine bA ?_ _) | (refine bN ?_ _) | (refine bD ?_) | (refine bT ?_ hbd1)))) (Nat.le_refl _)) HS.out (by omega) (by omega) (by omega) hn).mono ?_
          rintro e wd2 ⟨vs, rfl, hod2, hbd2⟩
          obtain ⟨os, cs, rfl⟩ := hod2.shapeN (n := pre.length + 1) (cutT_len _ _)
          have hd2 : Below w4.heap.size w4 wd2 := (by (repeat (first | exact bR _ _ | (refine bS ?_ _) | (refine bA ?_ _) | (refine bN ?_ _) | (refine bD ?_) | (refine bT ?_ hbd1) | (refine bT ?_ hbd2))))
          have hsd2 := hd2.size
          have hsz2_ := hbd2.size
          (try simp at hsz2_)
          obtain ⟨f2_a, f2_b⟩ := ((X4).below hd2 (Nat.le_refl _))
          obtain ⟨f2_c, f2_d⟩ := ((Y4).below hd2 (Nat.le_refl _))
          go_wp2_with fail
          clear hHeld
          have hHeld : (fun w' : World => w'.cell? ⟨w.heap.size, 0, none⟩ = some (.int .i64 m) ∧ w'.cell? ⟨w.heap.size, 1, none⟩ = some (.slice of n cf) ∧ w'.cell? ⟨w.heap.size + 1, 1, none⟩ = some (.slice og n cg)) wd2 := by go_keep
          refine hK.out _ _ (fun _ => hHeld) ?_
          clear hK K
          try simp only [List.getElem_toArray, List.getElem_cons_zero, List.getElem_cons_succ, Act.put, List.setIfInBounds_toArray, List.set_cons_zero, List.set_cons_succ]
          refine wpAnyK_oneL (i := 11) rfl (by kernel_rfl) (fun K hK => ?_)
          go_simp
          go_at_call 29
          refine (l06Fits_c m (pre.length + 1) _ _ _ (cutT (pre.length + 1) t) (cutT (pre.length + 1) s) nx _ ((hod1.below (by (repeat (first | exact bR _ _ | (refine bS ?_ _) | (refine bA ?_ _) | (refine bN ?_ _) | (refine bD ?_) | (refine bT ?_ hbd2)))))).rd ((hod2.below (by (repeat (first | exact bR _ _ | (refine bS ?_ _) | (refine bA ?_ _) | (refine bN ?_ _) | (refine bD ?_)))))).rd ((hRd).below (by (repeat (first | exact bR _ _ | (refine bS ?_ _) | (refine bA ?_ _) | (refine bN ?_ _) | (refine bD ?_) | (refine bT ?_ hbd1) | (refine bT ?_ hbd2)))) (Nat.le_refl _)) hnl (by omega) (by omega) hm hm' HCt.out HCs.out HNX.out hn0).mono ?_
          rintro e wd3 ⟨hq3, hbd3⟩
          rw [HFit.out] at hq3; subst hq3
          have hd3 : Below w4.heap.size w4 wd3 := (by (repeat (first | exact bR _ _ | (refine bS ?_ _) | (refine bA ?_ _) | (refine bN ?_ _) | (refine bD ?_) | (refine bT ?_ hbd1) | (refine bT ?_ hbd2) | (refine bT ?_ hbd3))))
          have hsd3 := hd3.size
          have hsz3_ := hbd3.size
          (try simp at hsz3_)
          obtain ⟨f3_a, f3_b⟩ := ((X4).below hd3 (Nat.le_refl _))
          obtain ⟨f3_c, f3_d⟩ := ((Y4).below hd3 (Nat.le_refl _))
          go_wp2_with fail
          clear hHeld
          have hHeld : (fun w' : World => w'.cell? ⟨w.heap.size, 0, none⟩ = some (.int .i64 m) ∧ w'.cell? ⟨w.heap.size, 1, none⟩ = some (.slice of n cf) ∧ w'.cell? ⟨w.heap.size + 1, 1, none⟩ = some (.slice og n cg)) wd3 := by go_keep
          refine hK.out _ _ (fun _ => hHeld) ?_
          clear hK K
          try simp only [List.getElem_toArray, List.getElem_cons_zero, List.getElem_cons_succ, Act.put, List.setIfInBounds_toArray, List.set_cons_zero, List.set_cons_succ]
          refine wpAnyK_done (by kernel_rfl) ?_ _
          have X5 := X4.below hd3 (Nat.le_refl _)
          have Y5 := Y4.below hd3 (Nat.le_refl _)
          have hf5 := hf4.below hd3
          have hg5 := hg4.below hd3
          have hN5 := hN4.below hd3
          have hO5 := hO4'.below hd3
          have hg05 : w0.grownBy wd3 (Value.slice ov out.length cv).ownBlock := hg04.trans (gr_of_below hd3)
          have h5s := hg05.size
          clear X4 Y4 hf4 hg4 hN4 hO4' hg04 hRd hRf hRg hO4
          obtain ⟨x0, x1⟩ := id X5
          obtain ⟨y0, y1⟩ := id Y5
          have hl5 : ∀ b, (Value.slice ol q.length cl).ownBlock = some b → b < wd3.heap.size := fun b hb => by have := hlq b hb; omega
          have HI := Lib.hid (ih (.slice of n cf) (.slice og n cg) (.slice on (pre.length + 1) cn) (.slice ol q.length cl) nx q B wd3 (by omega) (by omega) hn0 HNX.out hf5 hg5 hN5 hO5 (by omega) hlm)
          clear ih hf5 hg5 hN5 HFit HCt HCs f0_a f0_b f0_c f0_d f1_a f1_b f1_c f1_d f2_a f2_b f2_c f2_d f3_a f3_b f3_c f3_d hbd1 hbd2 hbd3 hod1 hod2 hHeld
          cases fb
          · have HS3 := Lib.hid (show foldG m n most t s d pre out (c + 1) = q by rw [HF.out, HSt2.out]; simp)
            clear HSt2 HI
            go_wp2_with fail
            refine ⟨⟨c + 1, by omega, by go_num, by rw [HS3.out]; exact hO5, hg05, by rw [HS3.out] at *; exact hown⟩, by simp [intOf]; omega⟩
          · have HS3 := Lib.hid (show foldG m n most t s d pre out (c + 1) = growL m.toNat n most (fitG m t s) d nx q by rw [HF.out, HSt2.out]; simp)
            clear HSt2
            go_wp2_with fail
            refine HI.out.mono ?_
            rintro e w6 ⟨v6, rfl, hO6, hg6, hown6⟩
            go_wp2
            refine ⟨⟨c + 1, by omega, by go_num, by rw [HS3.out]; exact hO6, gr_chain hg05 hown hg6, fun b hb => ?_⟩, by simp [intOf]; omega⟩
            rcases hown6 b hb with e | e
            · exact hown b e
            · exact .inr (by omega)
        · obtain ⟨y0, y1⟩ := id Xr
          have i2 : ¬ (q.length : Int) < (most : Int) := by omega
          have HQ := Lib.hid (HStop2 hlm)
          clear HStop2 hq
          go_wp2
          go_ret
          exact ⟨_, rfl, by rw [HQ.out]; exact hO, G0.trans hgr, fun b hb => by
            rcases hown b hb with e | e
            · exact .inl e
            · exact .inr (by omega)⟩
      · obtain rfl : c = m.toNat := by omega
        have i1 : ¬ ((m.toNat : Nat) : Int) < m := by omega
        have HQ := Lib.hid hq
        clear hq HStop2
        go_wp2
        go_ret
        exact ⟨_, rfl, by rw [← HQ.out]; exact hO, G0.trans hgr, fun b hb => by
          rcases hown b hb with e | e
          · exact .inl e
          · exact .inr (by omega)⟩
end Go.Proofs.Ytfpphfjlpgefaaa
