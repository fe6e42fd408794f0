/- Lemmas. -/
import Derived.Test.YteijannfbafdpaaGreatDoorSZM16
import Derived.Test.YteijannfbafdpaaGreatDoorSZG1
import Derived.Test.YteijannfbafdpaaGreatDoorSZG15
import Derived.Test.YteijannfbafdpaaGreatDoorSZM8
set_option linter.unusedSimpArgs false
set_option linter.unusedVariables false
namespace Go.Proofs.YteijannfbafdpaaGreatDoor
open Go.RowKit

theorem OwSR.bel {lo hi : Nat} {w u : World} {v : Value} {xss : List (List Int)} (h : OwSR lo hi w v xss) (hb : Below hi w u) : OwSR lo hi u v xss :=
  h.stay (fun k _ hk => hb.block k hk)
def LsAt (lo hi : Nat) (w : World) (b f : Nat) (m : Int) (n l : Nat) (L : Nat → List Int) : Prop :=
  ∀ k, k < n → ∃ o c, Rds lo hi w (fun x => (x.cell? ⟨b, f + k * 2, none⟩ = some (.int .i64 m) ∧ x.cell? ⟨b, f + k * 2 + 1, none⟩ = some (.slice o l c)) ∧ RdI x (.slice o l c) (L k))
theorem LsAt.below {lo hi : Nat} {w w' : World} {b f : Nat} {m : Int} {n l : Nat} {L : Nat → List Int} (h : LsAt lo hi w b f m n l L) (hb : Below w.heap.size w w') : LsAt lo hi w' b f m n l L :=
  fun k hk => by obtain ⟨o, c, h1⟩ := h k hk; exact ⟨o, c, h1.below hb⟩
theorem LsAt.put {lo hi : Nat} {w : World} {b f : Nat} {m : Int} {n l : Nat} {L : Nat → List Int} (h : LsAt lo hi w b f m n l L) {g : Nat} (hb : g < lo ∨ hi ≤ g) (j : Nat) (u : Value) : LsAt lo hi (w.setCell ⟨g, j, none⟩ u) b f m n l L :=
  fun k hk => by obtain ⟨o, c, h1⟩ := h k hk; exact ⟨o, c, h1.put hb j u⟩
theorem LsAt.chg {lo hi a z : Nat} {w w' : World} {b f : Nat} {m : Int} {n l : Nat} {L : Nat → List Int} (h : LsAt lo hi w b f m n l L) (hc : Chg a z w w') (hd : hi ≤ a ∨ z ≤ lo) : LsAt lo hi w' b f m n l L :=
  fun k hk => by obtain ⟨o, c, h1⟩ := h k hk; exact ⟨o, c, h1.chg hc hd⟩
theorem OwLS.lsAt {w : World} {B n' c : Nat} {o : Option Addr} {m : Int} {xss : List (List Int)} (h : OwLS w B (.slice o n' c) m xss) {n l : Nat} {L : Nat → List Int} (hn : 1 ≤ n) (hx : xss.length = n) (hL : ∀ k, k < n → xss[k]? = some (L k)) (hl : ∀ k, (L k).length = l) :
    ∃ b f, o = some ⟨b, f, none⟩ ∧ LsAt B w.heap.size w b f m n l L := by
  subst hx
  obtain ⟨us, hul, hr, h1⟩ := h
  rcases id hr.2 with ⟨hv, h0⟩ | ⟨g, cap, cur, hv, hg, hh, -⟩
  · omega
  · obtain ⟨ho, hn', hc'⟩ := Value.slice.inj hv
    refine ⟨g, 0, ho, fun k hk => ?_⟩
    have hu : us[k]? = some us[k] := by simp [hul, hk]
    obtain ⟨lo, hi, h0, h2, h3⟩ := h1 k _ (L k) hu (hL k hk)
    obtain ⟨o', c', he, -, -⟩ := id h2.now
    rw [hl] at he
    rw [he] at hu h2
    refine ⟨o', c', Nat.le_refl _, fun x hx => ⟨?_, h2.2 x (fun j ha hb => hx j (by omega) (by have := h2.1; omega))⟩⟩
    have hglt := (Array.getElem?_eq_some_iff.1 hh).1
    have hb := hx g hg hglt
    have c0 : w.cell? ⟨g, 0 + k * 2, none⟩ = some (.int .i64 m) := by
      subst ho hn' hc'
      rw [Nat.zero_add, World.ownsRow.cellAt hr (k * 2) (by omega)]; exact pairsV_0 m us k (by omega)
    have c1 : w.cell? ⟨g, 0 + k * 2 + 1, none⟩ = some (.slice o' l c') := by
      subst ho hn' hc'
      rw [Nat.zero_add, World.ownsRow.cellAt hr (k * 2 + 1) (by omega), pairsV_1]; exact hu
    exact ⟨(World.cell?_of_block (a := ⟨g, 0 + k * 2, none⟩) hb).trans c0, (World.cell?_of_block (a := ⟨g, 0 + k * 2 + 1, none⟩) hb).trans c1⟩
theorem Rdo.snd {lo hi : Nat} {w : World} {P R : World → Prop} (h : Rdo lo hi w (fun x => P x ∧ R x)) : Rdo lo hi w R := fun x hx => (h x hx).2

set_option maxHeartbeats 4000000 in
set_option maxRecDepth 100000 in
theorem bothP_c (m : Int) (n : Nat) (v u u' : Value) (t : List (List Int)) (xs ys : List Int) (w : World) (hv : RdT w v t) (hu : RdI w u xs) (hu' : RdI w u' ys) (hlx : xs.length = n) (hly : ys.length = n) (h1 : 1 ≤ n) (hn : n ≤ 1000) (hm : 2 ≤ m) (hm' : m ≤ 10000)
    (ht : PlaT m n t) (hx : ∀ x ∈ xs, 0 ≤ x ∧ x < m) (hy : ∀ x ∈ ys, 0 ≤ x ∧ x < m) :
    Calls Tryz.prog 63 #[.agg #[.int .i64 m, v], .agg #[.int .i64 m, u], .agg #[.int .i64 m, u']] w fun e w' => PVEnd w w' m (botL m n t xs ys) e := by
  subst hlx
  obtain ⟨o, c, rfl, hmt, -⟩ := id hv
  obtain ⟨o1, c1, rfl, hmx, -⟩ := id hu
  obtain ⟨o2, c2, rfl, hmy, -⟩ := id hu'
  have hv' : RdT w (.slice o xs.length c) t := by rw [ht.1] at hv; exact hv
  have hu2 : RdI w (.slice o2 xs.length c2) ys := by rw [hly] at hu'; exact hu'
  rw [ht.1] at hmt ⊢
  rw [hly] at hmy ⊢
  have HLY := Lib.hid hly
  have HT := Lib.hid ht
  clear hly ht hv hu'
  unfold maxLen at hmt hmx hmy
  go_enter Tryz.func63, Tryz.ntmps63
  go_wp2_with fail
  (obtain ⟨w0, hw0⟩ : ∃ W : World, W = ((((w.alloc (.cells #[.int .i64 m, .slice o xs.length c] 28)).alloc (.cells #[.int .i64 m, .slice o1 xs.length c1] 57)).alloc (.cells #[.int .i64 m, .slice o2 xs.length c2] 57)).alloc (.cells #[.int .i64 0, .slice none 0 0] 28)) := ⟨_, rfl⟩; have X0 := (RB2.mk1 w  (.int .i64 m) (.slice o xs.length c) 28).1.below (w' := w0) (by rw [hw0]; (repeat (first | exact bR _ _ | (refine bS ?_ _) | (refine bA ?_ _) | (refine bN ?_ _) | (refine bD ?_)))) (Nat.le_refl _); have Y0 := (RB2.mk2 w (.cells #[.int .i64 m, .slice o xs.length c] 28) (.int .i64 m) (.slice o1 xs.length c1) 57).1.below (w' := w0) (by rw [hw0]; (repeat (first | exact bR _ _ | (refine bS ?_ _) | (refine bA ?_ _) | (refine bN ?_ _) | (refine bD ?_)))) (Nat.le_refl _); have Z0 := (RB2.mk3 w (.cells #[.int .i64 m, .slice o xs.length c] 28) (.cells #[.int .i64 m, .slice o1 xs.length c1] 57) (.int .i64 m) (.slice o2 xs.length c2) 57).1.below (w' := w0) (by rw [hw0]; (repeat (first | exact bR _ _ | (refine bS ?_ _) | (refine bA ?_ _) | (refine bN ?_ _) | (refine bD ?_)))) (Nat.le_refl _); have R0 := (RB2.mk4 w (.cells #[.int .i64 m, .slice o xs.length c] 28) (.cells #[.int .i64 m, .slice o1 xs.length c1] 57) (.cells #[.int .i64 m, .slice o2 xs.length c2] 57) (.int .i64 0) (.slice none 0 0) 28).below (w' := w0) (by rw [hw0]; (repeat (first | exact bR _ _ | (refine bS ?_ _) | (refine bA ?_ _) | (refine bN ?_ _) | (refine bD ?_)))) (Nat.le_refl _); have B0 : Below w.heap.size w w0 := (by rw [hw0]; (repeat (first | exact bR _ _ | (refine bS ?_ _) | (refine bA ?_ _) | (refine bN ?_ _) | (refine bD ?_)))); have hv'0 := hv'.below (w' := w0) (by rw [hw0]; (repeat (first | exact bR _ _ | (refine bS ?_ _) | (refine bA ?_ _) | (refine bN ?_ _) | (refine bD ?_)))) (Nat.le_refl _); have hu0 := hu.below (w' := w0) (by rw [hw0]; (repeat (first | exact bR _ _ | (refine bS ?_ _) | (refine bA ?_ _) | (refine bN ?_ _) | (refine bD ?_)))) (Nat.le_refl _); have hu20 := hu2.below (w' := w0) (by rw [hw0]; (repeat (first | exact bR _ _ | (refine bS ?_ _) | (refine bA ?_ _) | (refine bN ?_ _) | (refine bD ?_)))) (Nat.le_refl _); rw [← hw0]; clear hw0)
  have hzl : w.heap.size + 3 < w0.heap.size := R0.1.lt
  go_cut [7, 8, 9] (fun sb sp sq u => ∃ (wz : World) (b : Nat) (oz : Option Addr) (cz : Nat) (bp : Nat) (fp : Nat) (cp : Nat) (bq : Nat) (fq : Nat) (cq : Nat), wz = u ∧ sb = .pointer (some ⟨b, 0, none⟩) ∧ sp = .slice (some ⟨bp, fp, none⟩) xs.length cp ∧ sq = .slice (some ⟨bq, fq, none⟩) xs.length cq ∧ w0.heap.size ≤ b ∧ RB2 u b (.int .i64 m) (.slice oz xs.length cz) ∧ (∃ lo hi, OwSR lo hi u (.slice oz xs.length cz) (numbT m 0 xs.length) ∧ w0.heap.size ≤ lo ∧ (b < lo ∨ hi ≤ b) ∧ hi ≤ u.heap.size) ∧ True ∧ (∃ lo hi lp hp lq hq, OwSR lo hi u (.slice oz xs.length cz) (numbT m 0 xs.length) ∧ w0.heap.size ≤ lo ∧ (b < lo ∨ hi ≤ b) ∧ hi ≤ u.heap.size ∧ LsAt lp hp u bp fp m xs.length xs.length (powL m xs.length xs) ∧ hi ≤ lp ∧ LsAt lq hq u bq fq m xs.length xs.length (powL m xs.length ys) ∧ hi ≤ lq) ∧ Below w0.heap.size w0 u)
  case first =>
    have hd0 : Below w0.heap.size w0 w0.drew := (Below.refl _ _).drew
    have hsd0 := hd0.size
    have hlb_X0 := X0.lt
    have hlb_Y0 := Y0.lt
    have hlb_Z0 := Z0.lt
    obtain ⟨q0_X0_0, q0_X0_1⟩ := X0.below (Below.refl w0.heap.size w0) (Nat.le_refl _)
    obtain ⟨q0_Y0_0, q0_Y0_1⟩ := Y0.below (Below.refl w0.heap.size w0) (Nat.le_refl _)
    obtain ⟨q0_Z0_0, q0_Z0_1⟩ := Z0.below (Below.refl w0.heap.size w0) (Nat.le_refl _)
    have hne0_X0 : w0.heap.size ≠ w.heap.size := by omega
    have hne0_Y0 : w0.heap.size ≠ w.heap.size + 1 := by omega
    have hne0_Z0 : w0.heap.size ≠ w.heap.size + 2 := by omega
    go_region_held3 (fun w' => w'.cell? ⟨w.heap.size, 0, none⟩ = some (.int .i64 m) ∧ w'.cell? ⟨w.heap.size, 1, none⟩ = some (.slice o xs.length c) ∧ w'.cell? ⟨w.heap.size + 1, 0, none⟩ = some (.int .i64 m) ∧ w'.cell? ⟨w.heap.size + 1, 1, none⟩ = some (.slice o1 xs.length c1) ∧ w'.cell? ⟨w.heap.size + 2, 0, none⟩ = some (.int .i64 m) ∧ w'.cell? ⟨w.heap.size + 2, 1, none⟩ = some (.slice o2 xs.length c2)) (go_keep)
      (first
        | (go_at_call 89; refine (number_c m 0 o xs.length c _ h1 hn hm (by omega) (by omega) (by omega)).mono ?_; rintro e wd1 ⟨vz1, rfl, hod1, hbd1⟩; obtain ⟨oz, cz, rfl⟩ := hod1.shapeN (n := xs.length) (numbT_len _ _ _); have hd1 : Below w0.heap.size w0 wd1 := (by (repeat (first | exact bR _ _ | (refine bS ?_ _) | (refine bA ?_ _) | (refine bN ?_ _) | (refine bD ?_) | (refine bT ?_ hbd1)))); have hsd1 := hd1.size; have hsz1_ := hbd1.size; (try simp at hsz1_); obtain ⟨q1_X0_0, q1_X0_1⟩ := X0.below hd1 (Nat.le_refl _); obtain ⟨q1_Y0_0, q1_Y0_1⟩ := Y0.below hd1 (Nat.le_refl _); obtain ⟨q1_Z0_0, q1_Z0_1⟩ := Z0.below hd1 (Nat.le_refl _); have hne1_X0 : wd1.heap.size ≠ w.heap.size := (by omega); have hne1_Y0 : wd1.heap.size ≠ w.heap.size + 1 := (by omega); have hne1_Z0 : wd1.heap.size ≠ w.heap.size + 2 := (by omega); (try (have RZ := RZ.below hbd1 (Nat.le_refl _))); (try (have RZ := (show RB2 (w0.alloc (.cells #[.int .i64 0, .slice none 0 0] 28)).drew w0.heap.size (.int .i64 0) (.slice none 0 0) from RB2.mk1 w0 (.int .i64 0) (.slice none 0 0) _).below hbd1 (Nat.le_refl _))); (try (obtain ⟨⟨z1_0, z1_1⟩, zf1⟩ := id RZ)))
        | (go_at_call_of 92 (Value.agg #[.int .i64 m, .slice o1 xs.length c1]); refine (powersS_c m xs.length _ xs _ ((hu0).below (by (repeat (first | exact bR _ _ | (refine bS ?_ _) | (refine bA ?_ _) | (refine bN ?_ _) | (refine bD ?_) | (refine bT ?_ hbd1)))) (Nat.le_refl _)) rfl h1 hn hm (by omega) hx).mono ?_; rintro e wd2 ⟨vp, rfl, hol2, hbd2⟩; obtain ⟨op, cp, rfl⟩ := hol2.shapeN (n := xs.length) (powsL_len _ _ _ _); obtain ⟨bp, fp, rfl, hrp⟩ := hol2.lsAt (L := powL m xs.length xs) h1 (powsL_len _ _ _ _) (fun k hk => powsL_get hk) (fun k => powL_len _ _ _ _); clear hol2; have hd2 : Below w0.heap.size w0 wd2 := (by (repeat (first | exact bR _ _ | (refine bS ?_ _) | (refine bA ?_ _) | (refine bN ?_ _) | (refine bD ?_) | (refine bT ?_ hbd1) | (refine bT ?_ hbd2)))); have hsd2 := hd2.size; have hsz2_ := hbd2.size; (try simp at hsz2_); obtain ⟨q2_X0_0, q2_X0_1⟩ := X0.below hd2 (Nat.le_refl _); obtain ⟨q2_Y0_0, q2_Y0_1⟩ := Y0.below hd2 (Nat.le_refl _); obtain ⟨q2_Z0_0, q2_Z0_1⟩ := Z0.below hd2 (Nat.le_refl _); have hne2_X0 : wd2.heap.size ≠ w.heap.size := (by omega); have hne2_Y0 : wd2.heap.size ≠ w.heap.size + 1 := (by omega); have hne2_Z0 : wd2.heap.size ≠ w.heap.size + 2 := (by omega); (try (have RZ := RZ.below hbd2 (Nat.le_refl _))); (try (have RZ := (show RB2 (wd1.alloc (.cells #[.int .i64 0, .slice none 0 0] 28)) wd1.heap.size (.int .i64 0) (.slice none 0 0) from RB2.mk1 wd1 (.int .i64 0) (.slice none 0 0) _).below hbd2 (Nat.le_refl _))); (try (obtain ⟨⟨z2_0, z2_1⟩, zf2⟩ := id RZ)))
        | (go_at_call_of 92 (Value.agg #[.int .i64 m, .slice o2 xs.length c2]); refine (powersS_c m xs.length _ ys _ ((hu20).below (by (repeat (first | exact bR _ _ | (refine bS ?_ _) | (refine bA ?_ _) | (refine bN ?_ _) | (refine bD ?_) | (refine bT ?_ hbd1) | (refine bT ?_ hbd2)))) (Nat.le_refl _)) HLY.out h1 hn hm (by omega) hy).mono ?_; rintro e wd3 ⟨vq, rfl, hol3, hbd3⟩; obtain ⟨oq, cq, rfl⟩ := hol3.shapeN (n := xs.length) (powsL_len _ _ _ _); obtain ⟨bq, fq, rfl, hrq⟩ := hol3.lsAt (L := powL m xs.length ys) h1 (powsL_len _ _ _ _) (fun k hk => powsL_get hk) (fun k => powL_len _ _ _ _); clear hol3; have hd3 : Below w0.heap.size w0 wd3 := (by (repeat (first | exact bR _ _ | (refine bS ?_ _) | (refine bA ?_ _) | (refine bN ?_ _) | (refine bD ?_) | (refine bT ?_ hbd1) | (refine bT ?_ hbd2) | (refine bT ?_ hbd3)))); have hsd3 := hd3.size; have hsz3_ := hbd3.size; (try simp at hsz3_); obtain ⟨q3_X0_0, q3_X0_1⟩ := X0.below hd3 (Nat.le_refl _); obtain ⟨q3_Y0_0, q3_Y0_1⟩ := Y0.below hd3 (Nat.le_refl _); obtain ⟨q3_Z0_0, q3_Z0_1⟩ := Z0.below hd3 (Nat.le_refl _); have hne3_X0 : wd3.heap.size ≠ w.heap.size := (by omega); have hne3_Y0 : wd3.heap.size ≠ w.heap.size + 1 := (by omega); have hne3_Z0 : wd3.heap.size ≠ w.heap.size + 2 := (by omega); (try (have RZ := RZ.below hbd3 (Nat.le_refl _))); (try (have RZ := (show RB2 (wd2.alloc (.cells #[.int .i64 0, .slice none 0 0] 28)) wd2.heap.size (.int .i64 0) (.slice none 0 0) from RB2.mk1 wd2 (.int .i64 0) (.slice none 0 0) _).below hbd3 (Nat.le_refl _))); (try (obtain ⟨⟨z3_0, z3_1⟩, zf3⟩ := id RZ))))
    all_goals
      go_wp2_with fail
      go_meet
      refine ⟨_, _, oz, cz, bp, fp, cp, bq, fq, cq, rfl, rfl, rfl, rfl, ?_, ?_, ?_, ?_, ?_, ?_⟩
      · first | omega | (simp; done) | (simp; omega)
      · first | exact RB2.mk1 _ _ _ _ | exact RB2.put RZ _ _
      · first | (have hRZ := RZ; exact ⟨_, _, ((hod1.toR.bel (by (repeat (first | exact bR _ _ | (refine bS ?_ _) | (refine bA ?_ _) | (refine bN ?_ _) | (refine bD ?_) | (refine bT ?_ hbd2) | (refine bT ?_ hbd3))))).put (by first | (simp; done) | (simp; omega) | omega) 0 _).put (by first | (simp; done) | (simp; omega) | omega) 1 _, (by first | (simp; done) | (simp; omega) | omega), (by first | (simp; done) | (simp; omega) | omega), (by first | (simp; done) | (simp; omega) | omega)⟩) | exact ⟨_, _, (hod1.toR.bel (by (repeat (first | exact bR _ _ | (refine bS ?_ _) | (refine bA ?_ _) | (refine bN ?_ _) | (refine bD ?_) | (refine bT ?_ hbd2) | (refine bT ?_ hbd3))))), (by first | (simp; done) | (simp; omega) | omega), (by first | (simp; done) | (simp; omega) | omega), (by first | (simp; done) | (simp; omega) | omega)⟩
      · trivial
      · first | (have hRZ := RZ; exact ⟨_, _, _, _, _, _, ((hod1.toR.bel (by (repeat (first | exact bR _ _ | (refine bS ?_ _) | (refine bA ?_ _) | (refine bN ?_ _) | (refine bD ?_) | (refine bT ?_ hbd2) | (refine bT ?_ hbd3))))).put (by first | (simp; done) | (simp; omega) | omega) 0 _).put (by first | (simp; done) | (simp; omega) | omega) 1 _, (by first | (simp; done) | (simp; omega) | omega), (by first | (simp; done) | (simp; omega) | omega), (by first | (simp; done) | (simp; omega) | omega), ((hrp.below (by (repeat (first | exact bR _ _ | (refine bS ?_ _) | (refine bA ?_ _) | (refine bN ?_ _) | (refine bD ?_) | (refine bT ?_ hbd3))))).put (by first | (simp; done) | (simp; omega) | omega) 0 _).put (by first | (simp; done) | (simp; omega) | omega) 1 _, (by first | (simp; done) | (simp; omega) | omega), ((hrq.below (by (repeat (first | exact bR _ _ | (refine bS ?_ _) | (refine bA ?_ _) | (refine bN ?_ _) | (refine bD ?_))))).put (by first | (simp; done) | (simp; omega) | omega) 0 _).put (by first | (simp; done) | (simp; omega) | omega) 1 _, (by first | (simp; done) | (simp; omega) | omega)⟩) | exact ⟨_, _, _, _, _, _, hod1.toR.bel (by (repeat (first | exact bR _ _ | (refine bS ?_ _) | (refine bA ?_ _) | (refine bN ?_ _) | (refine bD ?_) | (refine bT ?_ hbd2) | (refine bT ?_ hbd3)))), (by first | (simp; done) | (simp; omega) | omega), (by first | (simp; done) | (simp; omega) | omega), (by first | (simp; done) | (simp; omega) | omega), hrp.below (by (repeat (first | exact bR _ _ | (refine bS ?_ _) | (refine bA ?_ _) | (refine bN ?_ _) | (refine bD ?_) | (refine bT ?_ hbd3)))), (by first | (simp; done) | (simp; omega) | omega), hrq.below (by (repeat (first | exact bR _ _ | (refine bS ?_ _) | (refine bA ?_ _) | (refine bN ?_ _) | (refine bD ?_)))), (by first | (simp; done) | (simp; omega) | omega)⟩
      · (repeat (first | exact bR _ _ | (refine bS ?_ _) | (refine bA ?_ _) | (refine bN ?_ _) | (refine bD ?_) | (refine bT ?_ hbd1) | (refine bT ?_ hbd2) | (refine bT ?_ hbd3)))
  case rest =>
  obtain ⟨w1, b, oz, cz, bp, fp, cp, bq, fq, cq, rfl, rfl, rfl, rfl, hbW, O, how, hneb, HH, hb⟩ := hcut
  clear how
  obtain ⟨lo, hi, lp, hp, lq, hq, how, hlo, hbo, hhi, hP, hlp, hQ, hlq⟩ := HH
  clear hneb
  (have X1 := X0.below hb (Nat.le_refl _); have R1 := R0.below hb (Nat.le_refl _); have B1 := B0.trans (hb.mono B0.size))
  obtain ⟨us, how⟩ := how.named
  obtain ⟨g, rfl, hgl, hgl'⟩ := how.row h1
  rw [numbT_0, botTo_0 m xs.length (atT t) (powL m xs.length xs) (powL m xs.length ys)] at how
  have B1s := B1.size
  have lO := O.1.lt
  have hRb : w.heap.size + 3 < lo := by omega
  obtain ⟨bt, ft, rfl, -⟩ := hv'.rows (by have := HT.out.1; omega)
  obtain ⟨x0, x1⟩ := id X1
  go_wp2_with fail
  clear x0 x1
  go_loopw [23] (fun s wr => ∃ i : Nat, i ≤ xs.length ∧ s = .int .i64 i ∧ OwSU us lo hi wr (.slice (some ⟨g, 0, none⟩) xs.length cz) (botTo m xs.length (atT t) (powL m xs.length xs) (powL m xs.length ys) i 0) ∧ Chg lo hi w1 wr) (fun i _ => xs.length - (intOf i).toNat)
  case atStart => exact ⟨0, Nat.zero_le _, rfl, how, Chg.refl _ _ _⟩
  case round =>
    obtain ⟨i, hi', rfl, hO, hC⟩ := hrel
    by_cases hlt : i < xs.length
    · obtain ⟨r1, hr1, hl1, hj1⟩ := HT.out.row hlt
      obtain ⟨p1, q1, cx0, rx0⟩ := hv'.row hr1
      rw [hl1] at cx0 rx0
      obtain ⟨b1, f1, rfl, -⟩ := rx0.cells (by omega)
      have Br := hC.below B1 (by omega) B1s
      have cx := keep_cell Br (Nat.le_refl _) cx0
      have i0 : (0 : Int) ≤ (i : Int) := by omega
      have i1 : (i : Int) < (xs.length : Int) := by omega
      have HJ := Lib.hid hj1
      clear hr1 hl1 hj1 cx0
      go_wp2_with fail
      clear cx
      go_loopw [30] (fun s wr => ∃ j : Nat, j ≤ xs.length - i ∧ s = .int .i64 j ∧ OwSU us lo hi wr (.slice (some ⟨g, 0, none⟩) xs.length cz) (botTo m xs.length (atT t) (powL m xs.length xs) (powL m xs.length ys) i j) ∧ Chg lo hi w1 wr) (fun i' _ => xs.length - i - (intOf i').toNat)
      case atStart => exact ⟨0, Nat.zero_le _, rfl, hO, hC⟩
      case round =>
        clear hO hC Br
        obtain ⟨j, hj, rfl, hO, hC⟩ := hrel
        have Br := hC.below B1 (by omega) B1s
        by_cases hjl : j < xs.length - i
        · have ex := (rx0.below Br (Nat.le_refl _)).cell0 (HJ.out j hjl)
          obtain ⟨-, -, -, -, hxa, hxb⟩ := HT.out.at (i := i) (j := j) (by omega)
          have j0 : (0 : Int) ≤ (j : Int) := by omega
          have j1 : (j : Int) < ((xs.length - i : Nat) : Int) := by omega
          have j2 : (j : Int) < (xs.length : Int) := by omega
          cases hx0 : (atT t i j != 0)
          · rw [botTo_skip (by simpa using hx0)] at hO
            go_wp2
            exact ⟨⟨j + 1, by omega, by go_num, hO, hC⟩, by simp [intOf]; omega⟩
          · obtain ⟨o3, c3, hP3⟩ := (hP.chg hC (.inr hlp)) i hlt
            obtain ⟨o4, c4, hQ4⟩ := (hQ.chg hC (.inr hlq)) j (by omega)
            obtain ⟨⟨y0, y1⟩, rp⟩ := hP3.now
            obtain ⟨⟨z0, z1⟩, rq⟩ := hQ4.now
            obtain ⟨⟨b0, b1'⟩, bf⟩ := O.chg hC hbo
            have HS := Lib.hid (botTo_step (m := m) (n := xs.length) (t := atT t) (P := powL m xs.length xs) (Q := powL m xs.length ys) (i := i) (j := j) (powL_len _ _ _ _))
            have HOK := Lib.hid (botTo_ok (m := m) (show 0 < m by omega) xs.length (atT t) (powL m xs.length xs) (powL m xs.length ys) i j)
            have hCs := hC.size
            have lOr := cell_lt b0
            go_wp2_with fail
            clear ex
            have hd0 : Below wr.heap.size wr wr.drew := (Below.refl _ _).drew
            have hsd0 := hd0.size
            have f0_a := keep_cell hd0 (Nat.le_refl _) b0
            have f0_b := keep_cell hd0 (Nat.le_refl _) b1'
            have f0_c := keep_cell hd0 (Nat.le_refl _) y0
            have f0_d := keep_cell hd0 (Nat.le_refl _) y1
            have f0_e := keep_cell hd0 (Nat.le_refl _) z0
            have f0_f := keep_cell hd0 (Nat.le_refl _) z1
            refine wp_region_K (S := fun w' => w'.cell? ⟨b, 0, none⟩ = some (.int .i64 m) ∧ w'.cell? ⟨b, 1, none⟩ = some (.slice (some ⟨g, 0, none⟩) xs.length cz) ∧ w'.cell? ⟨bp, fp + i * 2, none⟩ = some (.int .i64 m) ∧ w'.cell? ⟨bp, fp + i * 2 + 1, none⟩ = some (.slice o3 xs.length c3) ∧ w'.cell? ⟨bq, fq + j * 2, none⟩ = some (.int .i64 m) ∧ w'.cell? ⟨bq, fq + j * 2 + 1, none⟩ = some (.slice o4 xs.length c4)) [11] (by kernel_rfl) ?_
            have hHeld : (fun w' : World => w'.cell? ⟨b, 0, none⟩ = some (.int .i64 m) ∧ w'.cell? ⟨b, 1, none⟩ = some (.slice (some ⟨g, 0, none⟩) xs.length cz) ∧ w'.cell? ⟨bp, fp + i * 2, none⟩ = some (.int .i64 m) ∧ w'.cell? ⟨bp, fp + i * 2 + 1, none⟩ = some (.slice o3 xs.length c3) ∧ w'.cell? ⟨bq, fq + j * 2, none⟩ = some (.int .i64 m) ∧ w'.cell? ⟨bq, fq + j * 2 + 1, none⟩ = some (.slice o4 xs.length c4)) wr.drew := by go_keep
            refine' wpAnyK_takeL (i := 0) (v := _) rfl (by kernel_rfl) (by kernel_rfl) (by kernel_rfl) (by kernel_rfl) (fun _ _ _ h => h) (Or.inl ⟨by rfl, ?yT1⟩) hHeld ?rT1
            case yT1 => (intro w' hSw; (try dsimp only at hSw); go_simp; try with_reducible rfl)
            try simp only [List.getElem_toArray, List.getElem_cons_zero, List.getElem_cons_succ, Act.put, List.setIfInBounds_toArray, List.set_cons_zero, List.set_cons_succ]
            refine' wpAnyK_takeL (i := 1) (v := _) rfl (by kernel_rfl) (by kernel_rfl) (by kernel_rfl) (by kernel_rfl) (fun _ _ _ h => h) (Or.inl ⟨by rfl, ?yT2⟩) hHeld ?rT2
            case yT2 => (intro w' hSw; (try dsimp only at hSw); go_simp; try with_reducible rfl)
            try simp only [List.getElem_toArray, List.getElem_cons_zero, List.getElem_cons_succ, Act.put, List.setIfInBounds_toArray, List.set_cons_zero, List.set_cons_succ]
            refine' wpAnyK_takeL (i := 2) (v := _) rfl (by kernel_rfl) (by kernel_rfl) (by kernel_rfl) (by kernel_rfl) (fun _ _ _ h => h) (Or.inl ⟨by rfl, ?yT3⟩) hHeld ?rT3
            case yT3 => (intro w' hSw; (try dsimp only at hSw); go_simp; try with_reducible rfl)
            try simp only [List.getElem_toArray, List.getElem_cons_zero, List.getElem_cons_succ, Act.put, List.setIfInBounds_toArray, List.set_cons_zero, List.set_cons_succ]
            refine' wpAnyK_takeL (i := 3) (v := _) rfl (by kernel_rfl) (by kernel_rfl) (by kernel_rfl) (by kernel_rfl) (fun _ _ _ h => h) (Or.inl ⟨by rfl, ?yT4⟩) hHeld ?rT4
            case yT4 => (intro w' hSw; (try dsimp only at hSw); go_simp; try with_reducible rfl)
            try simp only [List.getElem_toArray, List.getElem_cons_zero, List.getElem_cons_succ, Act.put, List.setIfInBounds_toArray, List.set_cons_zero, List.set_cons_succ]
            refine' wpAnyK_takeL (i := 4) (v := _) rfl (by kernel_rfl) (by kernel_rfl) (by kernel_rfl) (by kernel_rfl) (fun _ _ _ h => h) (Or.inl ⟨by rfl, ?yT5⟩) hHeld ?rT5
            case yT5 => (intro w' hSw; (try dsimp only at hSw); go_simp; try with_reducible rfl)
            try simp only [List.getElem_toArray, List.getElem_cons_zero, List.getElem_cons_succ, Act.put, List.setIfInBounds_toArray, List.set_cons_zero, List.set_cons_succ]
            refine' wpAnyK_takeL (i := 5) (v := _) rfl (by kernel_rfl) (by kernel_rfl) (by kernel_rfl) (by kernel_rfl) (fun _ _ _ h => h) (Or.inl ⟨by rfl, ?yT6⟩) hHeld ?rT6
            case yT6 => (intro w' hSw; (try dsimp only at hSw); go_simp; try with_reducible rfl)
            try simp only [List.getElem_toArray, List.getElem_cons_zero, List.getElem_cons_succ, Act.put, List.setIfInBounds_toArray, List.set_cons_zero, List.set_cons_succ]
            refine' wpAnyK_takeL (i := 7) (v := _) rfl (by kernel_rfl) (by kernel_rfl) (by kernel_rfl) (by kernel_rfl) (fun _ _ _ h => h) (Or.inl ⟨by rfl, ?yT7⟩) hHeld ?rT7
            case yT7 => (intro w' hSw; (try dsimp only at hSw); go_simp; try with_reducible rfl)
            try simp only [List.getElem_toArray, List.getElem_cons_zero, List.getElem_cons_succ, Act.put, List.setIfInBounds_toArray, List.set_cons_zero, List.set_cons_succ]
            refine' wpAnyK_takeL (i := 8) (v := _) rfl (by kernel_rfl) (by kernel_rfl) (by kernel_rfl) (by kernel_rfl) (fun _ _ _ h => h) (Or.inl ⟨by rfl, ?yT8⟩) hHeld ?rT8
            case yT8 => (intro w' hSw; (try dsimp only at hSw); go_simp; try with_reducible rfl)
            try simp only [List.getElem_toArray, List.getElem_cons_zero, List.getElem_cons_succ, Act.put, List.setIfInBounds_toArray, List.set_cons_zero, List.set_cons_succ]
            refine' wpAnyK_takeL (i := 9) (v := _) rfl (by kernel_rfl) (by kernel_rfl) (by kernel_rfl) (by kernel_rfl) (fun _ _ _ h => h) (Or.inl ⟨by rfl, ?yT9⟩) hHeld ?rT9
            case yT9 => (intro w' hSw; (try dsimp only at hSw); go_simp; try with_reducible rfl)
            try simp only [List.getElem_toArray, List.getElem_cons_zero, List.getElem_cons_succ, Act.put, List.setIfInBounds_toArray, List.set_cons_zero, List.set_cons_succ]
            refine' wpAnyK_takeL (i := 10) (v := _) rfl (by kernel_rfl) (by kernel_rfl) (by kernel_rfl) (by kernel_rfl) (fun _ _ _ h => h) (Or.inl ⟨by rfl, ?yT10⟩) hHeld ?rT10
            case yT10 => (intro w' hSw; (try dsimp only at hSw); go_simp; try with_reducible rfl)
            try simp only [List.getElem_toArray, List.getElem_cons_zero, List.getElem_cons_succ, Act.put, List.setIfInBounds_toArray, List.set_cons_zero, List.set_cons_succ]
            refine wpAnyK_oneL (i := 6) rfl (by kernel_rfl) (fun K hK => ?_)
            go_simp
            go_at_call 94
            refine (scaled_c m (atT t i j) _ (powL m xs.length xs i) _ ((rp).below (by (repeat (first | exact bR _ _ | (refine bS ?_ _) | (refine bA ?_ _) | (refine bN ?_ _) | (refine bD ?_)))) (Nat.le_refl _)) (by rw [powL_len]; omega) (by rw [powL_len]; omega) hm (by omega) (powL_range (by omega)) (by omega) (by omega)).mono ?_
            rintro e wd1 ⟨vs1, rfl, hod1, hbd1⟩
            obtain ⟨os, cs, rfl⟩ := hod1.shapeN (n := xs.length) (by rw [scaleL_len, powL_len])
            have hd1 : Below wr.heap.size wr wd1 := (by (repeat (first | exact bR _ _ | (refine bS ?_ _) | (refine bA ?_ _) | (refine bN ?_ _) | (refine bD ?_) | (refine bT ?_ hbd1))))
            have hsd1 := hd1.size
            have hsz1_ := hbd1.size
            (try simp at hsz1_)
            have f1_a := keep_cell hd1 (Nat.le_refl _) b0
            have f1_b := keep_cell hd1 (Nat.le_refl _) b1'
            have f1_c := keep_cell hd1 (Nat.le_refl _) y0
            have f1_d := keep_cell hd1 (Nat.le_refl _) y1
            have f1_e := keep_cell hd1 (Nat.le_refl _) z0
            have f1_f := keep_cell hd1 (Nat.le_refl _) z1
            go_wp2_with fail
            clear hHeld
            have hHeld : (fun w' : World => w'.cell? ⟨b, 0, none⟩ = some (.int .i64 m) ∧ w'.cell? ⟨b, 1, none⟩ = some (.slice (some ⟨g, 0, none⟩) xs.length cz) ∧ w'.cell? ⟨bp, fp + i * 2, none⟩ = some (.int .i64 m) ∧ w'.cell? ⟨bp, fp + i * 2 + 1, none⟩ = some (.slice o3 xs.length c3) ∧ w'.cell? ⟨bq, fq + j * 2, none⟩ = some (.int .i64 m) ∧ w'.cell? ⟨bq, fq + j * 2 + 1, none⟩ = some (.slice o4 xs.length c4)) wd1 := by go_keep
            refine hK.out _ _ (fun _ => hHeld) ?_
            clear hK K
            try simp only [List.getElem_toArray, List.getElem_cons_zero, List.getElem_cons_succ, Act.put, List.setIfInBounds_toArray, List.set_cons_zero, List.set_cons_succ]
            refine wpAnyK_oneL (i := 11) rfl (by kernel_rfl) (fun K hK => ?_)
            go_simp
            go_at_call 93
            refine (addOuter_c m m m xs.length us lo hi _ _ _ _ (scaleL m (atT t i j) (powL m xs.length xs i)) (powL m xs.length ys j) _ (hO.stay (fun k _ hk => hd1.block k (by omega))) (by omega) ((hod1.rds hsd1).outside (.inr (by omega))) ((hQ4.below hd1).outside (.inr hlq)).snd (by rw [scaleL_len, powL_len]) (powL_len _ _ _ _) h1 hn hm (by omega) HOK.out (scaleL_range (by omega)) (powL_range (by omega))).mono ?_
            rintro e wz ⟨rfl, hOz, hCz⟩
            go_wp2_with fail
            refine hK.out _ _ (fun h => absurd h (by decide)) ?_
            clear hK K
            try simp only [List.getElem_toArray, List.getElem_cons_zero, List.getElem_cons_succ, Act.put, List.setIfInBounds_toArray, List.set_cons_zero, List.set_cons_succ]
            refine wpAnyK_done (by kernel_rfl) ?_ _
            go_wp2_with fail
            rw [HS.out] at hOz
            go_wp2
            exact ⟨⟨j + 1, by omega, by go_num, hOz, hC.trans ((Chg.of_below hd1).trans hCz)⟩, by simp [intOf]; omega⟩
        · obtain rfl : j = xs.length - i := by omega
          rw [botTo_row rfl] at hO
          go_wp2
          exact ⟨⟨i + 1, by omega, by go_num, hO, hC⟩, by simp [intOf]; omega⟩
    · obtain rfl : i = xs.length := by omega
      have Br := hC.below B1 (by omega) B1s
      obtain ⟨⟨z0, z1⟩, zf⟩ := O.chg hC hbo
      obtain ⟨⟨r0, r1⟩, rf⟩ := R1.chg hC (.inl hRb)
      go_wp2
      refine bodyPost_ret (v := .agg #[.int .i64 m, .slice (some ⟨g, 0, none⟩) xs.length cz]) (by simp [results, Tryz.results63, go_sem, r0, r1]) rfl ⟨_, rfl, ?_, ?_⟩
      · exact ((hO.r.ow.low hRb _).low hRb _).mono (by omega)
      · (repeat (first | exact bR _ _ | (refine bS ?_ _) | (refine bA ?_ _) | (refine bN ?_ _) | (refine bD ?_) | (refine bT ?_ Br)))

end Go.Proofs.YteijannfbafdpaaGreatDoor
set_option linter.unusedSimpArgs false
set_option linter.unusedVariables false
namespace Go.Proofs.YteijannfbafdpaaGreatDoor
open Go.RowKit

set_option maxHeartbeats 4000000 in
set_option maxRecDepth 100000 in
theorem l03Both_c (m : Int) (n : Nat) (v u u' : Value) (t : List (List Int)) (xs ys : List Int) (w : World) (hv : RdT w v t) (hu : RdI w u xs) (hu' : RdI w u' ys) (hlx : xs.length = n) (hly : ys.length = n) (h1 : 1 ≤ n) (hn : n ≤ 1000) (hm : 2 ≤ m) (hm' : m ≤ 10000)
    (ht : PlaT m n t) (hx : ∀ x ∈ xs, 0 ≤ x ∧ x < m) (hy : ∀ x ∈ ys, 0 ≤ x ∧ x < m) (hx0 : at0 xs 0 = 0) (hy0 : at0 ys 0 = 0) :
    Calls Tryz.prog 71 #[.int .i64 m, v, u, u'] w fun e w' => ∃ v', e = .returned v' ∧ OwS w' w.heap.size v' (botL m n t xs ys) ∧ Below w.heap.size w w' := by
  subst hlx
  obtain ⟨o, c, rfl, hmt, -⟩ := id hv
  have hv' : RdT w (.slice o xs.length c) t := by rw [ht.1] at hv; exact hv
  rw [ht.1] at hmt ⊢
  have HLY := Lib.hid hly
  have HT := Lib.hid ht
  have HX0 := Lib.hid hx0
  have HY0 := Lib.hid hy0
  clear hly ht hv hx0 hy0
  unfold maxLen at hmt
  obtain ⟨bt, ft, rfl, -⟩ := hv'.rows (by have := HT.out.1; omega)
  have m0 : (m == 0) = false := by simp; omega
  have m1 : ¬ m = 0 := by omega
  go_enter Tryz.func71, Tryz.ntmps71
  go_wp2_with fail
  go_at_call 97
  refine (l03Powers_c m xs.length u xs _ hu rfl h1 hn hm (by omega) hx).mono ?_
  rintro e w1 ⟨vp, rfl, hop, hb1⟩
  obtain ⟨op, cp, rfl⟩ := hop.shapeN (n := xs.length) (powsL_len _ _ _ _)
  have hP1 := hop.rd
  clear hop
  go_wp2_with fail
  go_at_call 97
  refine (l03Powers_c m xs.length u' ys _ (hu'.below hb1 (Nat.le_refl _)) HLY.out h1 hn hm (by omega) hy).mono ?_
  rintro e w2 ⟨vq, rfl, hoq, hb2⟩
  obtain ⟨oq, cq, rfl⟩ := hoq.shapeN (n := xs.length) (powsL_len _ _ _ _)
  have hQ2 := hoq.rd
  have hP2 := hP1.below hb2 (Nat.le_refl _)
  clear hoq hP1
  obtain ⟨bp, fp, rfl, -⟩ := hP2.rows (by rw [powsL_len]; omega)
  obtain ⟨bq, fq, rfl, -⟩ := hQ2.rows (by rw [powsL_len]; omega)
  have B2 := hb1.trans (hb2.mono hb1.size)
  clear hb1 hb2
  go_wp2_with fail
  go_at_call 44
  refine (l03Zero_c ((xs.length : Int) - 1) xs.length _ rfl hn).mono ?_
  rintro e w3 ⟨vz, rfl, how, hb3⟩
  obtain ⟨oz, cz, rfl⟩ := how.shapeN (n := xs.length) (zeroT_len xs.length)
  have how := how.toR
  obtain ⟨lo, hlo⟩ : ∃ lo, w2.heap.size = lo := ⟨_, rfl⟩
  obtain ⟨hi, hhi⟩ : ∃ hi, w3.heap.size = hi := ⟨_, rfl⟩
  rw [hlo, hhi] at how
  obtain ⟨us, how⟩ := how.named
  obtain ⟨g, rfl, hgl, hgl'⟩ := how.row h1
  rw [botTo_0 m xs.length (atT t) (powL m xs.length xs) (powL m xs.length ys)] at how
  have B2s := B2.size
  have b3s := hb3.size
  go_wp2_with fail
  go_loopw [13] (fun s wr => ∃ i : Nat, i ≤ xs.length ∧ s = .int .i64 i ∧ OwSU us lo hi wr (.slice (some ⟨g, 0, none⟩) xs.length cz) (botTo m xs.length (atT t) (powL m xs.length xs) (powL m xs.length ys) i 0) ∧ Chg lo hi w3 wr) (fun i _ => xs.length - (intOf i).toNat)
  case atStart => exact ⟨0, Nat.zero_le _, rfl, how, Chg.refl _ _ _⟩
  case round =>
    obtain ⟨i, hi', rfl, hO, hC⟩ := hrel
    by_cases hlt : i < xs.length
    · have i0 : (0 : Int) ≤ (i : Int) := by omega
      have i1 : (i : Int) < (xs.length : Int) := by omega
      go_wp2_with fail
      go_loopw [14] (fun s wr => ∃ j : Nat, j ≤ xs.length - i ∧ s = .int .i64 j ∧ OwSU us lo hi wr (.slice (some ⟨g, 0, none⟩) xs.length cz) (botTo m xs.length (atT t) (powL m xs.length xs) (powL m xs.length ys) i j) ∧ Chg lo hi w3 wr) (fun i' _ => xs.length - i - (intOf i').toNat)
      case atStart => exact ⟨0, Nat.zero_le _, rfl, hO, hC⟩
      case round =>
        clear hO hC
        obtain ⟨j, hj, rfl, hO, hC⟩ := hrel
        by_cases hjl : j < xs.length - i
        · obtain ⟨r1, hr1, hl1, hj1⟩ := HT.out.row hlt
          obtain ⟨p1, q1, cx0, rx0⟩ := hv'.row hr1
          rw [hl1] at cx0 rx0
          obtain ⟨b1, f1, rfl, -⟩ := rx0.cells (by omega)
          have ex0 := rx0.cell0 (hj1 j hjl)
          obtain ⟨o3, c3, y0, rp⟩ := hP2.row (powsL_get (show i < xs.length by omega))
          obtain ⟨o4, c4, z0, rq⟩ := hQ2.row (powsL_get (show j < xs.length by omega))
          rw [powL_len] at y0 rp z0 rq
          obtain ⟨b3, f3, rfl, -⟩ := rp.cells (by rw [powL_len]; omega)
          obtain ⟨b4, f4, rfl, -⟩ := rq.cells (by rw [powL_len]; omega)
          clear hr1 hl1 hj1
          obtain ⟨-, -, -, -, hxa, hxb⟩ := HT.out.at (i := i) (j := j) (by omega)
          have j0 : (0 : Int) ≤ (j : Int) := by omega
          have j1 : (j : Int) < ((xs.length - i : Nat) : Int) := by omega
          have j2 : (i : Int) + (j : Int) < (xs.length : Int) := by omega
          have j3 : (j : Int) < (xs.length : Int) := by omega
          rw [bpT_0] at hO
          go_wp2_with fail
          go_loopw [15] (fun s wr => ∃ k : Nat, i ≤ k ∧ k ≤ xs.length ∧ s = .int .i64 k ∧ OwSU us lo hi wr (.slice (some ⟨g, 0, none⟩) xs.length cz) (bpT m xs.length (atT t) (powL m xs.length xs) (powL m xs.length ys) i j k j) ∧ Chg lo hi w3 wr) (fun i' _ => xs.length - (intOf i').toNat)
          case atStart => exact ⟨i, Nat.le_refl _, by omega, rfl, hO, hC⟩
          case round =>
            clear hO hC
            obtain ⟨k, hik, hk, rfl, hO, hC⟩ := hrel
            have Br2 := hC.below hb3 (by omega) b3s
            have Br := B2.trans (Br2.mono B2s)
            by_cases hkl : k < xs.length
            · have cx := keep_cell Br (Nat.le_refl _) cx0
              have ex := keep_cell Br (Nat.le_refl _) ex0
              have k0 : (0 : Int) ≤ (k : Int) := by omega
              have k1 : (k : Int) < (xs.length : Int) := by omega
              cases hx0 : (atT t i j != 0)
              · rw [bpT_skip (by simpa using hx0)] at hO
                go_wp2
                exact ⟨⟨j + 1, by omega, by go_num, hO, hC⟩, by simp [intOf]; omega⟩
              · obtain ⟨o5, c5, hu5, cx5, how5, hbl5, -⟩ := hO.at (bpT_row hkl)
                rw [bpR_len] at hu5 cx5 how5 hbl5
                obtain ⟨gr, rfl, hgr1, hgr2⟩ : ∃ gr, o5 = some ⟨gr, 0, none⟩ ∧ lo ≤ gr ∧ gr < wr.heap.size := how5.row (by omega)
                have hgr3 := hbl5 gr rfl
                have HU5 := Lib.hid hu5
                clear how5 hbl5 hu5
                go_wp2_with fail
                clear cx ex cx5
                go_loopw [17] (fun s wr => ∃ l : Nat, j ≤ l ∧ (l ≤ xs.length - k ∨ l = j) ∧ s = .int .i64 l ∧ OwSU us lo hi wr (.slice (some ⟨g, 0, none⟩) xs.length cz) (bpT m xs.length (atT t) (powL m xs.length xs) (powL m xs.length ys) i j k l) ∧ Chg lo hi w3 wr) (fun i' _ => xs.length - k - (intOf i').toNat)
                case atStart => exact ⟨j, Nat.le_refl _, .inr rfl, rfl, hO, hC⟩
                case round =>
                  clear hO hC Br2 Br
                  obtain ⟨l, hjl', hl, rfl, hO, hC⟩ := hrel
                  have Br2 := hC.below hb3 (by omega) b3s
                  have Br := B2.trans (Br2.mono B2s)
                  by_cases hll : l < xs.length - k
                  · have cx := keep_cell Br (Nat.le_refl _) cx0
                    have ex := keep_cell Br (Nat.le_refl _) ex0
                    have cp := keep_cell Br2 (Nat.le_refl _) y0
                    have cq := keep_cell Br2 (Nat.le_refl _) z0
                    have ep := (rp.below Br2 (Nat.le_refl _)).cell0 (some_at0 (show k < (powL m xs.length xs i).length by rw [powL_len]; omega))
                    have eq := (rq.below Br2 (Nat.le_refl _)).cell0 (some_at0 (show l < (powL m xs.length ys j).length by rw [powL_len]; omega))
                    obtain ⟨hpa, hpb⟩ := at0_range (m := m) (by omega) (powL_range (m := m) (n := xs.length) (a := xs) (k := i) (by omega)) k
                    obtain ⟨hqa, hqb⟩ := at0_range (m := m) (by omega) (powL_range (m := m) (n := xs.length) (a := ys) (k := j) (by omega)) l
                    obtain ⟨o6, c6, hu6, -, how6, -, hset6⟩ := hO.at (bpT_row hkl)
                    rw [bpR_len] at hu6 how6 hset6
                    obtain ⟨rfl, rfl⟩ : some ⟨gr, 0, none⟩ = o6 ∧ c5 = c6 := by rw [HU5.out] at hu6; simpa using hu6
                    have hc0 := how6.cell (k := l) (bpR_get (by omega))
                    have hf0 := how6.fz l
                    have hN := Lib.hid how6
                    have hS := Lib.hid hset6
                    have hSt := Lib.hid (bpT_set (m := m) (n := xs.length) (t := atT t) (P := powL m xs.length xs) (Q := powL m xs.length ys) hik hjl' (show k + l < xs.length by omega))
                    clear how6 hset6 hu6
                    have l0 : (0 : Int) ≤ (l : Int) := by omega
                    have l1 : (l : Int) < ((xs.length - k : Nat) : Int) := by omega
                    have l2 : (k : Int) + (l : Int) < (xs.length : Int) := by omega
                    have l3 : (l : Int) < (xs.length : Int) := by omega
                    generalize hP' : at0 (powL m xs.length xs i) k = pk at ep hpa hpb hSt
                    generalize hQ' : at0 (powL m xs.length ys j) l = ql at eq hqa hqb hSt
                    generalize hA' : botS xs.length (atT t) (powL m xs.length xs) (powL m xs.length ys) i j k l = sa at hc0 hSt
                    obtain ⟨hM0, hM1⟩ := prod_fits hxa hpa hxb hpb (show m ≤ 3000000000 by omega)
                    have hMm := mod_lt' (a := atT t i j * pk) (show 0 < m by omega)
                    obtain ⟨hN0, hN1⟩ := prod_fits hMm.1 hqa hMm.2 hqb (show m ≤ 3000000000 by omega)
                    have hCm := mod_lt' (a := sa) (show 0 < m by omega)
                    clear hP' hQ' hA'
                    go_wp2_with fail
                    have e3 : IntKind.i64.wrap (atT t i j * pk) = atT t i j * pk := IntWalk.i64_in _ (by omega)
                    have e4 : (atT t i j * pk).tmod m = atT t i j * pk % m := Int.tmod_eq_emod_of_nonneg (by omega)
                    have e5 : IntKind.i64.wrap (atT t i j * pk % m * ql) = atT t i j * pk % m * ql := IntWalk.i64_in _ (by omega)
                    have e1 : IntKind.i64.wrap (sa % m + atT t i j * pk % m * ql) = sa % m + atT t i j * pk % m * ql := IntWalk.i64_in _ (by omega)
                    have e2 : (sa % m + atT t i j * pk % m * ql).tmod m = (sa % m + atT t i j * pk % m * ql) % m := Int.tmod_eq_emod_of_nonneg (by omega)
                    go_still_tail 35, (by kernel_rfl)
                    change wpList _ _ _ _ _ wr.drew
                    have HE := Lib.hid (show (sa % m + atT t i j * pk % m * ql) % m = (sa + atT t i j * pk % m * ql) % m from emod_congr_add (emod_idem _ _) rfl)
                    have hg0 := gr_put (gr_drewN (World.grownBy.refl wr (some gr)) 1) l (.int .i64 ((sa % m + atT t i j * pk % m * ql) % m))
                    have hOn := hS.out _ _ (by rw [List.length_set, bpR_len]) hg0 ((hN.out.drewN 1).put l _)
                    have hCn := hC.grown hg0 hgr3.1 hgr3.2.1
                    rw [hSt.out, HE.out] at hOn
                    rw [HE.out] at hCn
                    go_wp2
                    exact ⟨⟨l + 1, by omega, by omega, by go_num, hOn, hCn⟩, by simp [intOf]; omega⟩
                  · rw [bpT_line (by omega)] at hO
                    have l2 : ¬ (k : Int) + (l : Int) < (xs.length : Int) := by omega
                    go_wp2
                    exact ⟨⟨k + 1, by omega, by omega, by go_num, hO, hC⟩, by simp [intOf]; omega⟩
            · obtain rfl : k = xs.length := by omega
              rw [bpT_all (powL_low HX0.out i) (powL_low HY0.out j)] at hO
              go_wp2
              exact ⟨⟨j + 1, by omega, by go_num, hO, hC⟩, by simp [intOf]; omega⟩
        · obtain rfl : j = xs.length - i := by omega
          rw [botTo_row rfl] at hO
          have j2 : ¬ (i : Int) + ((xs.length - i : Nat) : Int) < (xs.length : Int) := by omega
          go_wp2
          exact ⟨⟨i + 1, by omega, by go_num, hO, hC⟩, by simp [intOf]; omega⟩
    · obtain rfl : i = xs.length := by omega
      have Br2 := hC.below hb3 (by omega) b3s
      have Br := B2.trans (Br2.mono B2s)
      go_wp2
      go_ret
      exact ⟨_, rfl, hO.r.ow.mono (by omega), Br⟩

end Go.Proofs.YteijannfbafdpaaGreatDoor
