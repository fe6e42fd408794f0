/- Lemmas of PlaU. -/
import Derived.Test.YtoednonijmkbjaaGreatVPlaT
import Derived.Test.YtoednonijmkbjaaGreatVG2
import Derived.Test.YtoednonijmkbjaaGreatVSerC
set_option linter.unusedSimpArgs false
set_option linter.unusedVariables false
namespace Go.Proofs.YtoednonijmkbjaaGreat
open Go.RowKit

def numbT (m a : Int) (n : Nat) : List (List Int) := tri n (fun i j => if i = 0 ∧ j = 0 then a % m else 0)
theorem numbT_len (m a : Int) (n : Nat) : (numbT m a n).length = n := tri_len _ _
theorem numbT_ok {m : Int} (hm : 0 < m) (a : Int) (n : Nat) : PlaT m n (numbT m a n) := tri_ok fun i j _ => by
  split
  · exact mod_lt' hm
  · omega
theorem numbT_0 (m : Int) (n : Nat) : numbT m 0 n = zeroT n := tri_ext fun i j _ => by split <;> simp
theorem zeroT_get {n i : Nat} (h : i < n) : (zeroT n)[i]? = some (mk (n - i) (fun _ => 0)) := tri_get h
theorem zeroT_set {n : Nat} (h : 0 < n) (m a : Int) : (zeroT n).set 0 ((mk (n - 0) (fun _ => 0)).set 0 (a % m)) = numbT m a n := tri_set (f := fun _ _ => 0) (by omega)

set_option maxHeartbeats 2000000 in
set_option maxRecDepth 100000 in
theorem number_c (m a : Int) (o : Option Addr) (n c : Nat) (w : World) (h1 : 1 ≤ n) (hn : n ≤ 1000) (hm : 2 ≤ m) (hm' : m ≤ 1000000000000) (ha : -9000000000000000000 ≤ a) (ha' : a ≤ 9000000000000000000) :
    Calls Tryz.prog 131 #[.agg #[.int .i64 m, .slice o n c], .int .i64 a] w fun e w' => PVEnd w w' m (numbT m a n) e := by
  go_enter Tryz.func131, Tryz.ntmps131
  go_wp2_with fail
  (have X0 := ((RB2.mk1 w  (.int .i64 m) (.slice o n c) 31).1).below (w' := ((w.alloc (.cells #[.int .i64 m, .slice o n c] 31)).alloc (.cells #[.int .i64 0, .slice none 0 0] 31))) (by (repeat (first | exact Below.refl _ _ | (refine Below.setCell ?_ (by first | (simp; done) | (simp; omega) | omega) _) | (refine Below.alloc ?_ (by first | (simp; done) | (simp; omega) | omega) _) | (refine below_drewN ?_ _) | (refine Below.drew ?_)))) (Nat.le_refl _); have R0 := ((RB2.mk2 w (.cells #[.int .i64 m, .slice o n c] 31) (.int .i64 0) (.slice none 0 0) 31)).below (w' := ((w.alloc (.cells #[.int .i64 m, .slice o n c] 31)).alloc (.cells #[.int .i64 0, .slice none 0 0] 31))) (by (repeat (first | exact Below.refl _ _ | (refine Below.setCell ?_ (by first | (simp; done) | (simp; omega) | omega) _) | (refine Below.alloc ?_ (by first | (simp; done) | (simp; omega) | omega) _) | (refine below_drewN ?_ _) | (refine Below.drew ?_)))) (Nat.le_refl _); have B0 : Below w.heap.size w ((w.alloc (.cells #[.int .i64 m, .slice o n c] 31)).alloc (.cells #[.int .i64 0, .slice none 0 0] 31)) := (by (repeat (first | exact Below.refl _ _ | (refine Below.setCell ?_ (by first | (simp; done) | (simp; omega) | omega) _) | (refine Below.alloc ?_ (by first | (simp; done) | (simp; omega) | omega) _) | (refine below_drewN ?_ _) | (refine Below.drew ?_)))); generalize (w.alloc (.cells #[.int .i64 m, .slice o n c] 31)).alloc (.cells #[.int .i64 0, .slice none 0 0] 31) = w0 at X0 R0 B0  ⊢)
  have hzl : w.heap.size + 1 < w0.heap.size := R0.1.lt
  go_cut [5] (fun sb u => ∃ (wz : World) (b : Nat) (oz : Option Addr) (cz : Nat), wz = u ∧ sb = .pointer (some ⟨b, 0, none⟩) ∧ w0.heap.size ≤ b ∧ RB2 u b (.int .i64 m) (.slice oz n cz) ∧ (∃ lo hi, OwSR lo hi u (.slice oz n cz) (zeroT n) ∧ w0.heap.size ≤ lo ∧ (b < lo ∨ hi ≤ b) ∧ hi ≤ u.heap.size) ∧ True ∧ Below w0.heap.size w0 u)
  case first =>
    have hd0 : Below w0.heap.size w0 w0.drew := (Below.refl _ _).drew
    have hsd0 := hd0.size
    have hlb_X0 := X0.lt
    obtain ⟨q0_X0_0, q0_X0_1⟩ := X0.below (Below.refl w0.heap.size w0) (Nat.le_refl _)
    have hne0_X0 : w0.heap.size ≠ w.heap.size := by omega
    go_region_held3 (fun w' => w'.cell? ⟨w.heap.size, 0, none⟩ = some (.int .i64 m) ∧ w'.cell? ⟨w.heap.size, 1, none⟩ = some (.slice o n c)) (go_keep)
      (first
        | (go_at_call 54; refine (degreeP_c m o n c _ (by unfold maxLen; omega)).mono ?_; rintro e wd1 ⟨rfl, hbd1⟩; have hd1 : Below w0.heap.size w0 wd1 := (by (repeat (first | exact Below.refl _ _ | (refine Below.setCell ?_ (by first | (simp; done) | (simp; omega) | omega) _) | (refine Below.alloc ?_ (by first | (simp; done) | (simp; omega) | omega) _) | (refine below_drewN ?_ _) | (refine Below.drew ?_) | (refine Below.trans ?_ (Below.mono hbd1 (by first | (simp; done) | (simp; omega) | omega)))))); have hsd1 := hd1.size; have hsz1_ := hbd1.size; (try simp at hsz1_); obtain ⟨q1_X0_0, q1_X0_1⟩ := X0.below hd1 (Nat.le_refl _); have hne1_X0 : wd1.heap.size ≠ w.heap.size := (by omega); (try (have RZ := RZ.below hbd1 (Nat.le_refl _))); (try (have RZ := (show RB2 (w0.alloc (.cells #[.int .i64 0, .slice none 0 0] 31)).drew w0.heap.size (.int .i64 0) (.slice none 0 0) from RB2.mk1 w0 (.int .i64 0) (.slice none 0 0) _).below hbd1 (Nat.le_refl _))); (try (obtain ⟨⟨z1_0, z1_1⟩, zf1⟩ := id RZ)))
        | (go_at_call 98; refine (emptyPlane_c m ((n : Int) - 1) n _ rfl hn).mono ?_; rintro e wd2 ⟨vz2, rfl, hod2, hbd2⟩; obtain ⟨oz, cz, rfl⟩ := hod2.shapeN (n := n) (zeroT_len n); have hd2 : Below w0.heap.size w0 wd2 := (by (repeat (first | exact Below.refl _ _ | (refine Below.setCell ?_ (by first | (simp; done) | (simp; omega) | omega) _) | (refine Below.alloc ?_ (by first | (simp; done) | (simp; omega) | omega) _) | (refine below_drewN ?_ _) | (refine Below.drew ?_) | (refine Below.trans ?_ (Below.mono hbd1 (by first | (simp; done) | (simp; omega) | omega))) | (refine Below.trans ?_ (Below.mono hbd2 (by first | (simp; done) | (simp; omega) | omega)))))); have hsd2 := hd2.size; have hsz2_ := hbd2.size; (try simp at hsz2_); obtain ⟨q2_X0_0, q2_X0_1⟩ := X0.below hd2 (Nat.le_refl _); have hne2_X0 : wd2.heap.size ≠ w.heap.size := (by omega); (try (have RZ := RZ.below hbd2 (Nat.le_refl _))); (try (have RZ := (show RB2 (wd1.alloc (.cells #[.int .i64 0, .slice none 0 0] 31)) wd1.heap.size (.int .i64 0) (.slice none 0 0) from RB2.mk1 wd1 (.int .i64 0) (.slice none 0 0) _).below hbd2 (Nat.le_refl _))); (try (obtain ⟨⟨z2_0, z2_1⟩, zf2⟩ := id RZ))))
    all_goals
      go_wp2_with fail
      go_meet
      refine ⟨_, _, oz, cz, rfl, rfl, ?_, ?_, ?_, ?_, ?_⟩
      · first | omega | (simp; done) | (simp; omega)
      · first | exact RB2.mk1 _ _ _ _ | exact RB2.put RZ _ _
      · first | exact ⟨_, _, hod2.ra _, (by first | (simp; done) | (simp; omega) | omega), .inr (Nat.le_refl _), (by first | (simp; done) | (simp; omega) | omega)⟩ | exact ⟨_, _, hod2.rp2 (by first | (simp; done) | (simp; omega) | omega) _ _, (by first | (simp; done) | (simp; omega) | omega), .inl (by first | (simp; done) | (simp; omega) | omega), (by first | (simp; done) | (simp; omega) | omega)⟩
      · trivial
      · (repeat (first | exact Below.refl _ _ | (refine Below.setCell ?_ (by first | (simp; done) | (simp; omega) | omega) _) | (refine Below.alloc ?_ (by first | (simp; done) | (simp; omega) | omega) _) | (refine below_drewN ?_ _) | (refine Below.drew ?_) | (refine Below.trans ?_ (Below.mono hbd1 (by first | (simp; done) | (simp; omega) | omega))) | (refine Below.trans ?_ (Below.mono hbd2 (by first | (simp; done) | (simp; omega) | omega)))))
  case rest =>
  obtain ⟨w1, b, oz, cz, rfl, rfl, hbW, O, how, hneb, hb⟩ := hcut
  (have X1 := X0.below hb (Nat.le_refl _); have R1 := R0.below hb (Nat.le_refl _); have B1 := B0.trans (hb.mono B0.size))
  obtain ⟨lo, hi, how, hlo, hbo, hhi⟩ := how
  obtain ⟨us, how⟩ := how.named
  obtain ⟨g, rfl, hgl, hgl'⟩ := how.row h1
  obtain ⟨o1, c1, hu1, cx1, how1, hbl1, hset1⟩ := how.at (zeroT_get (show 0 < n by omega))
  rw [mk_len] at cx1 how1 hbl1 hset1 hu1
  obtain ⟨gr, rfl, hgr1, hgr2⟩ := how1.row (by omega)
  have hgr3 := hbl1 gr rfl
  have hc0 := how1.cell (k := 0) (mk_get (show 0 < n - 0 by omega))
  have hf0 := how1.fz 0
  have Hn := Lib.hid how1
  have HS := Lib.hid hset1
  clear how1 hset1 hbl1 hu1
  have B1s := B1.size
  have hlB : w.heap.size + 1 < lo := by omega
  obtain ⟨x0, x1⟩ := id X1
  obtain ⟨⟨z0, z1⟩, zf⟩ := id O
  have i1 : (0 : Int) < ((n - 0 : Nat) : Int) := by omega
  have i2 : (0 : Int) < (n : Int) := by omega
  have i3 : 0 < n := by omega
  go_wp2_with fail
  go_still_tail 9, (by kernel_rfl)
  still_call (stillC (mod_c _ _ _ (by omega) (by omega) (by omega) (by omega)))
  repeat still_step
  refine wpStill_nil ?_
  change wpList _ _ _ _ _ w1.drew
  have hg0 := gr_put (World.grownBy.refl w1 (some gr)) 0 (.int .i64 (a % m))
  have hO := HS.out _ _ (by rw [List.length_set, mk_len]) hg0 (Hn.out.put 0 (a % m))
  rw [zeroT_set h1] at hO
  have hC := (Chg.refl lo hi w1).grown hg0 hgr3.1 hgr3.2.1
  obtain ⟨⟨p0, p1⟩, pf⟩ := O.chg hC hbo
  obtain ⟨⟨r0, r1⟩, rf⟩ := R1.chg hC (.inl hlB)
  have Br := hC.below B1 (by omega) B1s
  clear cx1 x0 x1 z0 z1 zf
  go_wp2
  refine bodyPost_ret (v := .agg #[.int .i64 m, .slice (some ⟨g, 0, none⟩) n cz]) (by simp [results, Tryz.results131, go_sem, r0, r1]) rfl ⟨_, rfl, ?_, ?_⟩
  · exact ((hO.r.ow.low hlB _).low hlB _).mono (by omega)
  · (repeat (first | exact Below.refl _ _ | (refine Below.setCell ?_ (by first | (simp; done) | (simp; omega) | omega) _) | (refine Below.alloc ?_ (by first | (simp; done) | (simp; omega) | omega) _) | (refine below_drewN ?_ _) | (refine Below.drew ?_) | (refine Below.trans ?_ (Below.mono B1 (by first | (simp; done) | (simp; omega) | omega)))))

end Go.Proofs.YtoednonijmkbjaaGreat
