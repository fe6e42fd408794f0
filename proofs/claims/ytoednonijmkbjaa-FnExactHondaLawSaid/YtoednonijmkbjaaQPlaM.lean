/- Lemmas of PlaM. -/
import Derived.Test.YtoednonijmkbjaaQPlaP
import Derived.StillTailTactics
import Derived.Deep.DeepCutAuto
set_option linter.unusedSimpArgs false
set_option linter.unusedVariables false
namespace Go.Proofs.Ytoednonijmkbjaa
open Go.RowKit

theorem OwSR.alloc {lo hi : Nat} {u : World} {v : Value} {xss : List (List Int)} (h : OwSR lo hi u v xss) (hh : hi ≤ u.heap.size) (o : Obj) : OwSR lo hi (u.alloc o) v xss :=
  h.stay (fun k _ hk => Below.heap_alloc _ _ k (by omega))
theorem heap_set_ne (u : World) (b k : Nat) (x : Value) {j : Nat} (h : j ≠ b) : (u.setCell ⟨b, k, none⟩ x).heap[j]? = u.heap[j]? := heap_setCell_other u ⟨b, k, none⟩ j x (fun e => h (by simp [e]))
theorem OwSR.put {lo hi : Nat} {u : World} {v : Value} {xss : List (List Int)} (h : OwSR lo hi u v xss) {b : Nat} (hb : b < lo ∨ hi ≤ b) (k : Nat) (x : Value) : OwSR lo hi (u.setCell ⟨b, k, none⟩ x) v xss :=
  h.stay (fun j _ _ => heap_set_ne u b k x (by omega))
theorem OwS.ra {w : World} {B : Nat} {v : Value} {xss : List (List Int)} (h : OwS w B v xss) (o : Obj) : OwSR B w.heap.size (w.alloc o) v xss := h.toR.alloc (Nat.le_refl _) o
theorem OwS.rp2 {w : World} {B b : Nat} {v : Value} {xss : List (List Int)} (h : OwS w B v xss) (hb : b < B) (x y : Value) : OwSR B w.heap.size ((w.setCell ⟨b, 0, none⟩ x).setCell ⟨b, 1, none⟩ y) v xss :=
  (h.toR.put (.inl hb) 0 x).put (.inl hb) 1 y
def mapTo (n : Nat) (g : Nat → Nat → Int) (i j : Nat) : List (List Int) := tri n (fun a b => if a < i ∨ (a = i ∧ b < j) then g a b else 0)
theorem mapTo_0 (n : Nat) (g : Nat → Nat → Int) : zeroT n = mapTo n g 0 0 := tri_ext fun i j _ => by simp
def mapRow (n : Nat) (g : Nat → Nat → Int) (i j : Nat) : List Int := mk (n - i) (fun b => if b < j then g i b else 0)
theorem mapRow_len (n : Nat) (g : Nat → Nat → Int) (i j : Nat) : (mapRow n g i j).length = n - i := mk_len _ _
theorem mapTo_get {n : Nat} {g : Nat → Nat → Int} {i j : Nat} (h : i < n) : (mapTo n g i j)[i]? = some (mapRow n g i j) := by
  unfold mapTo; rw [tri_get h]; congr 1; exact mk_ext fun b _ => by simp
theorem mapTo_set {n : Nat} {g : Nat → Nat → Int} {i j : Nat} (h : i + j < n) : (mapTo n g i j).set i ((mapRow n g i j).set j (g i j)) = mapTo n g i (j + 1) := by
  have e : mapRow n g i j = mk (n - i) ((fun a b => if a < i ∨ (a = i ∧ b < j) then g a b else 0) i) := mk_ext fun b _ => by simp
  unfold mapTo
  rw [e, tri_set h]
  refine tri_ext fun a b hab => ?_
  by_cases e1 : a = i ∧ b = j
  · obtain ⟨rfl, rfl⟩ := e1; simp
  · rw [if_neg e1]
    by_cases e2 : a < i ∨ (a = i ∧ b < j)
    · rw [if_pos e2, if_pos (by omega)]
    · rw [if_neg e2, if_neg (by omega)]
theorem mapTo_row {n : Nat} {g : Nat → Nat → Int} {i : Nat} : mapTo n g i (n - i) = mapTo n g (i + 1) 0 := tri_ext fun a b hab => by
  by_cases e : a < i ∨ (a = i ∧ b < n - i)
  · rw [if_pos e, if_pos (by omega)]
  · rw [if_neg e, if_neg (by omega)]
theorem mapTo_all (n : Nat) (g : Nat → Nat → Int) : mapTo n g n 0 = tri n g := tri_ext fun a b hab => by rw [if_pos (by omega)]

set_option maxHeartbeats 2000000 in
set_option maxRecDepth 100000 in
theorem mapped2_c (G : Nat) (c0 c1 : Value) (f : Nat → Nat → Int) (m : Int) (o : Option Addr) (n c : Nat) (w : World) (h1 : 1 ≤ n) (hn : n ≤ 1000) (hm : 1 ≤ m) (hm' : m ≤ 1000000000000000000) (hG : Callable G)
    (hf : ∀ i j, i + j < n → -9000000000000000000 ≤ f i j ∧ f i j ≤ 9000000000000000000)
    (hF : ∀ (i j : Nat) w1, i + j < n → Below w.heap.size w w1 → Calls Try.prog G #[.int .i64 i, .int .i64 j, c0, c1] w1 fun e w' => e = .returned (.int .i64 (f i j)) ∧ ∃ d, w' = w1.drewN d) :
    Calls Try.prog 60 #[.agg #[.int .i64 m, .slice o n c], .func (.func G) #[] #[c0, c1]] w fun e w' => PVEnd w w' m (tri n (fun i j => f i j % m)) e := by
  have HF := Lib.hid hF
  have Hf := Lib.hid hf
  clear hF hf
  unfold Callable at hG
  go_enter Try.func60, Try.ntmps60
  go_wp2_with fail
  (have X0 := ((RB2.mk1 w  (.int .i64 m) (.slice o n c) 24).1).below (w' := ((w.alloc (.cells #[.int .i64 m, .slice o n c] 24)).alloc (.cells #[.int .i64 0, .slice none 0 0] 24))) (by (repeat (first | exact Below.refl _ _ | (refine Below.setCell ?_ (by first | (simp; done) | (simp; omega) | omega) _) | (refine Below.alloc ?_ (by first | (simp; done) | (simp; omega) | omega) _) | (refine below_drewN ?_ _) | (refine Below.drew ?_)))) (Nat.le_refl _); have R0 := ((RB2.mk2 w (.cells #[.int .i64 m, .slice o n c] 24) (.int .i64 0) (.slice none 0 0) 24)).below (w' := ((w.alloc (.cells #[.int .i64 m, .slice o n c] 24)).alloc (.cells #[.int .i64 0, .slice none 0 0] 24))) (by (repeat (first | exact Below.refl _ _ | (refine Below.setCell ?_ (by first | (simp; done) | (simp; omega) | omega) _) | (refine Below.alloc ?_ (by first | (simp; done) | (simp; omega) | omega) _) | (refine below_drewN ?_ _) | (refine Below.drew ?_)))) (Nat.le_refl _); have B0 : Below w.heap.size w ((w.alloc (.cells #[.int .i64 m, .slice o n c] 24)).alloc (.cells #[.int .i64 0, .slice none 0 0] 24)) := (by (repeat (first | exact Below.refl _ _ | (refine Below.setCell ?_ (by first | (simp; done) | (simp; omega) | omega) _) | (refine Below.alloc ?_ (by first | (simp; done) | (simp; omega) | omega) _) | (refine below_drewN ?_ _) | (refine Below.drew ?_)))); generalize (w.alloc (.cells #[.int .i64 m, .slice o n c] 24)).alloc (.cells #[.int .i64 0, .slice none 0 0] 24) = w0 at X0 R0 B0  ⊢)
  have hzl : w.heap.size + 1 < w0.heap.size := R0.1.lt
  go_cut [5] (fun sb u => ∃ (wz : World) (b : Nat) (oz : Option Addr) (cz : Nat), wz = u ∧ sb = .pointer (some ⟨b, 0, none⟩) ∧ w0.heap.size ≤ b ∧ RB2 u b (.int .i64 m) (.slice oz n cz) ∧ (∃ lo hi, OwSR lo hi u (.slice oz n cz) (zeroT n) ∧ w0.heap.size ≤ lo ∧ (b < lo ∨ hi ≤ b) ∧ hi ≤ u.heap.size) ∧ True ∧ Below w0.heap.size w0 u)
  case first =>
    have hd0 : Below w0.heap.size w0 w0.drew := (Below.refl _ _).drew
    have hsd0 := hd0.size
    have hlb_X0 := X0.lt
    obtain ⟨q0_X0_0, q0_X0_1⟩ := X0.below (Below.refl w0.heap.size w0) (Nat.le_refl _)
    have hne0_X0 : w0.heap.size ≠ w.heap.size := by omega
    go_region_held3 (fun w' => w'.cell? ⟨w.heap.size, 0, none⟩ = some (.int .i64 m) ∧ w'.cell? ⟨w.heap.size, 1, none⟩ = some (.slice o n c)) (go_keep)
      (first
        | (go_at_call 40; refine (degreeP_c m o n c _ (by unfold maxLen; omega)).mono ?_; rintro e wd1 ⟨rfl, hbd1⟩; have hd1 : Below w0.heap.size w0 wd1 := (by (repeat (first | exact Below.refl _ _ | (refine Below.setCell ?_ (by first | (simp; done) | (simp; omega) | omega) _) | (refine Below.alloc ?_ (by first | (simp; done) | (simp; omega) | omega) _) | (refine below_drewN ?_ _) | (refine Below.drew ?_) | (refine Below.trans ?_ (Below.mono hbd1 (by first | (simp; done) | (simp; omega) | omega)))))); have hsd1 := hd1.size; have hsz1_ := hbd1.size; (try simp at hsz1_); obtain ⟨q1_X0_0, q1_X0_1⟩ := X0.below hd1 (Nat.le_refl _); have hne1_X0 : wd1.heap.size ≠ w.heap.size := (by omega); (try (have RZ := RZ.below hbd1 (Nat.le_refl _))); (try (have RZ := (show RB2 (w0.alloc (.cells #[.int .i64 0, .slice none 0 0] 24)).drew w0.heap.size (.int .i64 0) (.slice none 0 0) from RB2.mk1 w0 (.int .i64 0) (.slice none 0 0) _).below hbd1 (Nat.le_refl _))); (try (obtain ⟨⟨z1_0, z1_1⟩, zf1⟩ := id RZ)))
        | (go_at_call 59; refine (emptyPlane_c m ((n : Int) - 1) n _ rfl hn).mono ?_; rintro e wd2 ⟨vz2, rfl, hod2, hbd2⟩; obtain ⟨oz, cz, rfl⟩ := hod2.shapeN (n := n) (zeroT_len n); have hd2 : Below w0.heap.size w0 wd2 := (by (repeat (first | exact Below.refl _ _ | (refine Below.setCell ?_ (by first | (simp; done) | (simp; omega) | omega) _) | (refine Below.alloc ?_ (by first | (simp; done) | (simp; omega) | omega) _) | (refine below_drewN ?_ _) | (refine Below.drew ?_) | (refine Below.trans ?_ (Below.mono hbd1 (by first | (simp; done) | (simp; omega) | omega))) | (refine Below.trans ?_ (Below.mono hbd2 (by first | (simp; done) | (simp; omega) | omega)))))); have hsd2 := hd2.size; have hsz2_ := hbd2.size; (try simp at hsz2_); obtain ⟨q2_X0_0, q2_X0_1⟩ := X0.below hd2 (Nat.le_refl _); have hne2_X0 : wd2.heap.size ≠ w.heap.size := (by omega); (try (have RZ := RZ.below hbd2 (Nat.le_refl _))); (try (have RZ := (show RB2 (wd1.alloc (.cells #[.int .i64 0, .slice none 0 0] 24)) wd1.heap.size (.int .i64 0) (.slice none 0 0) from RB2.mk1 wd1 (.int .i64 0) (.slice none 0 0) _).below hbd2 (Nat.le_refl _))); (try (obtain ⟨⟨z2_0, z2_1⟩, zf2⟩ := id RZ))))
    all_goals
      go_wp2_with fail
      go_meet
      refine ⟨_, _, oz, cz, rfl, rfl, ?_, ?_, ?_, ?_, ?_⟩
      · first | omega | (simp; done) | (simp; omega)
      · first | exact RB2.mk1 _ _ _ _ | exact RB2.put RZ _ _
      · first | exact ⟨_, _, hod2.ra _, (by first | (simp; done) | (simp; omega) | omega), .inr (Nat.le_refl _), (by first | (simp; done) | (simp; omega) | omega)⟩ | exact ⟨_, _, hod2.rp2 (by first | (simp; done) | (simp; omega) | omega) _ _, (by first | (simp; done) | (simp; omega) | omega), .inl (by first | (simp; done) | (simp; omega) | omega), (by first | (simp; done) | (simp; omega) | omega)⟩
      · trivial
      · (repeat (first | exact Below.refl _ _ | (refine Below.setCell ?_ (by first | (simp; done) | (simp; omega) | omega) _) | (refine Below.alloc ?_ (by first | (simp; done) | (simp; omega) | omega) _) | (refine below_drewN ?_ _) | (refine Below.drew ?_) | (refine Below.trans ?_ (Below.mono hbd1 (by first | (simp; done) | (simp; omega) | omega))) | (refine Below.trans ?_ (Below.mono hbd2 (by first | (simp; done) | (simp; omega) | omega)))))
  case rest =>
  obtain ⟨w1, b, oz, cz, rfl, rfl, hbW, O, how, hneb, hb⟩ := hcut
  (have X1 := X0.below hb (Nat.le_refl _); have R1 := R0.below hb (Nat.le_refl _); have B1 := B0.trans (hb.mono B0.size))
  obtain ⟨lo, hi, how, hlo, hbo, hhi⟩ := how
  obtain ⟨us, how⟩ := how.named
  obtain ⟨g, rfl, hgl, hgl'⟩ := how.row h1
  rw [mapTo_0 n (fun i j => f i j % m)] at how
  have B1s := B1.size
  have hlB : w.heap.size < lo := by omega
  have hRb : w.heap.size + 1 < lo := by omega
  obtain ⟨⟨q0, q1⟩, qf⟩ := id O
  go_wp2_with fail
  clear q0 q1 qf
  go_loopw [17] (fun i wr => ∃ k : Nat, k ≤ n ∧ i = .int .i64 k ∧ OwSU us lo hi wr (.slice (some ⟨g, 0, none⟩) n cz) (mapTo n (fun i j => f i j % m) k 0) ∧ Chg lo hi w1 wr) (fun i _ => n - (intOf i).toNat)
  case atStart => exact ⟨0, Nat.zero_le _, rfl, how, Chg.refl _ _ _⟩
  case round =>
    obtain ⟨k, hk, rfl, hO, hC⟩ := hrel
    by_cases hlt : k < n
    · obtain ⟨o1, c1', hu1, cx1, -, -, -⟩ := hO.at (mapTo_get hlt)
      rw [mapRow_len] at hu1 cx1
      have i0 : (0 : Int) ≤ (k : Int) := by omega
      have i1 : (k : Int) < (n : Int) := by omega
      go_wp2_with fail
      clear cx1
      go_loopw [24] (fun i w2 => ∃ j : Nat, j ≤ n - k ∧ i = .int .i64 j ∧ OwSU us lo hi w2 (.slice (some ⟨g, 0, none⟩) n cz) (mapTo n (fun i j => f i j % m) k j) ∧ Chg lo hi w1 w2) (fun i _ => n - k - (intOf i).toNat)
      case atStart => exact ⟨0, Nat.zero_le _, rfl, hO, hC⟩
      case round =>
        obtain ⟨j, hj, rfl, hO2, hC2⟩ := hrel
        have Br2 := hC2.below B1 (by omega) B1s
        by_cases hjl : j < n - k
        · obtain ⟨o2, c2', hu2, cx2, how2, hbl2, hset2⟩ := hO2.at (mapTo_get hlt)
          rw [mapRow_len] at hu2 cx2 how2 hbl2 hset2
          obtain ⟨rfl, rfl⟩ : o1 = o2 ∧ c1' = c2' := by rw [hu1] at hu2; simpa using hu2
          obtain ⟨gr, rfl, hgr1, hgr2⟩ := how2.row (by omega)
          have hgr3 := hbl2 gr rfl
          have HS2 := Lib.hid hset2
          clear cx2 hu2 hbl2 hset2
          obtain ⟨x0, x1⟩ := X1.chg hC2 (by omega)
          have hf0 := how2.fz j
          have hc0 := how2.cell (k := j) (x := 0) (by unfold mapRow; rw [mk_get (by omega)]; simp)
          have Hn := Lib.hid how2
          clear how2
          have hfk := Hf.out k j (by omega)
          have j0 : (0 : Int) ≤ (j : Int) := by omega
          have j1 : (j : Int) < ((n - k : Nat) : Int) := by omega
          have n1 : gr ≠ w.heap.size := by omega
          go_wp2_with fail
          go_region_held3 (fun w' => w'.cell? ⟨w.heap.size, 0, none⟩ = some (.int .i64 m)) (go_keep)
            (first
              | (refine (HF.out k j _ (by omega) (Br2.drew)).mono ?_; rintro e w' ⟨rfl, d, rfl⟩)
              | (go_at_call 75; refine (mod_c _ _ _ (by omega) (by omega) (by omega) (by omega)).mono ?_; rintro e w' ⟨rfl, rfl⟩))
          have hO3 := HS2.out _ _ (by rw [List.length_set, mapRow_len]) (gr_put (gr_drewN (World.grownBy.refl wr (some gr)) (1 + d)) j (.int .i64 (f k j % m))) ((Hn.out.drewN (1 + d)).put j (f k j % m))
          rw [mapTo_set (by omega)] at hO3
          have hC3 := (hC2.drewN (1 + d)).grown (grown_put (wr.drewN (1 + d)) gr j (.int .i64 (f k j % m))) hgr3.1 hgr3.2.1
          clear x0 x1 hf0 hc0 Hn HS2
          go_wp2
          exact ⟨⟨j + 1, by omega, by go_num, hO3, hC3⟩, by simp [intOf]; omega⟩
        · obtain rfl : j = n - k := by omega
          rw [mapTo_row] at hO2
          go_wp2
          exact ⟨⟨k + 1, by omega, by go_num, hO2, hC2⟩, by simp [intOf]; omega⟩
    · obtain rfl : k = n := by omega
      rw [mapTo_all] at hO
      obtain ⟨⟨z0, z1⟩, zf⟩ := O.chg hC hbo
      obtain ⟨⟨r0, r1⟩, rf⟩ := R1.chg hC (.inl hRb)
      have Br := hC.below B1 (by omega) B1s
      go_wp2
      refine bodyPost_ret (v := .agg #[.int .i64 m, .slice (some ⟨g, 0, none⟩) k cz]) (by simp [results, Try.results60, go_sem, r0, r1]) rfl ⟨_, rfl, ?_, ?_⟩
      · exact ((hO.r.ow.low hRb _).low hRb _).mono (by omega)
      · (repeat (first | exact Below.refl _ _ | (refine Below.setCell ?_ (by first | (simp; done) | (simp; omega) | omega) _) | (refine Below.alloc ?_ (by first | (simp; done) | (simp; omega) | omega) _) | (refine below_drewN ?_ _) | (refine Below.drew ?_) | (refine Below.trans ?_ (Below.mono Br (by first | (simp; done) | (simp; omega) | omega)))))

end Go.Proofs.Ytoednonijmkbjaa
