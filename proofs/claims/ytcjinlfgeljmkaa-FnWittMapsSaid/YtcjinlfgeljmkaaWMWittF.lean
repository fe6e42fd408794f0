/- Lemmas of WittF. -/
import Derived.Test.YtcjinlfgeljmkaaWMWittN
import Derived.Test.YtcjinlfgeljmkaaWMG1
set_option linter.unusedSimpArgs false
set_option linter.unusedVariables false
namespace Go.Proofs.Ytcjinlfgeljmkaa
open Go.RowKit

theorem rdI_drop {w : World} {b off n c : Nat} {xs : List Int} (h : RdI w (.slice (some ⟨b, off, none⟩) n c) xs) (k : Nat) (hk : k ≤ xs.length) : RdI w (.slice (some ⟨b, off + k, none⟩) (n - k) (c - k)) (xs.drop k) := by
  obtain ⟨o', c', heq, hm, hc⟩ := h
  obtain ⟨rfl, rfl, rfl⟩ : some ⟨b, off, none⟩ = o' ∧ n = xs.length ∧ c = c' := by simpa using heq
  refine ⟨_, _, by rw [List.length_drop], ⟨by rw [List.length_drop]; omega, by rw [List.length_drop]; omega, fun h => by cases h⟩, fun j x hx => ?_⟩
  rw [List.getElem?_drop] at hx
  obtain ⟨b', off', he, hcell⟩ := hc _ x hx
  obtain ⟨rfl, rfl⟩ : b = b' ∧ off = off' := by simpa using he
  exact ⟨_, _, rfl, by rw [Nat.add_assoc]; exact hcell⟩
def frobL (p : Nat) (m : Int) (xs : List Int) : List Int := FL p m (xs.length - 1) (fun k => gh p (at0 xs) (k + 1))
theorem frobL_len (p : Nat) (m : Int) (xs : List Int) : (frobL p m xs).length = xs.length - 1 := FL_len _ _ _ _
def frG (p : Nat) (W : Int) (xs : List Int) (k : Nat) : List Int := (List.range k).map (fun j => gh p (at0 xs) (j + 1) % W)
theorem frG_len (p : Nat) (W : Int) (xs : List Int) (k : Nat) : (frG p W xs k).length = k := by simp [frG]
theorem frG_succ (p : Nat) (W : Int) (xs : List Int) (k : Nat) : frG p W xs (k + 1) = frG p W xs k ++ [gh p (at0 xs) (k + 1) % W] := by simp [frG, List.range_succ]
theorem frG_range {p : Nat} {W : Int} (hW : 0 < W) {xs : List Int} {k : Nat} : ∀ g ∈ frG p W xs k, 0 ≤ g ∧ g < W := by
  intro g hg
  simp only [frG, List.mem_map] at hg
  obtain ⟨j, _, rfl⟩ := hg
  exact mod_lt' hW
theorem frG_drop (p : Nat) (W : Int) (xs : List Int) : (ghL p W xs xs.length).drop 1 = frG p W xs (xs.length - 1) := by
  apply List.ext_getElem
  · simp [ghL, frG]
  · intro i h1 h2
    simp only [ghL, frG, List.getElem_drop, List.getElem_map, List.getElem_range]
    rw [Nat.add_comm]
theorem frG_FL {p : Nat} (hp : P4 p) {m : Int} (hm : 0 < m) (e : Nat) (xs : List Int) (hn : xs.length - 1 ≤ e + 1) : (fromL (m * (p : Int) ^ e) p (frG p (m * (p : Int) ^ e) xs (xs.length - 1))).map (· % m) = frobL p m xs := by
  have := wide_eq hp hm (e := e) (fun k => gh p (at0 xs) (k + 1)) (frG p (m * (p : Int) ^ e) xs (xs.length - 1)) (by rw [frG_len]; exact hn) (by rw [frG_len]; exact next_ex hp _ _) (fun k hk => by
    simp only [frG, List.getElem_map, List.getElem_range]
    rw [Int.emod_emod_of_dvd _ (Int.dvd_refl _)])
  rw [frG_len] at this
  exact this
def frobR (p m : Int) (xs : List Int) : WR := if wittB p m xs then (if ((xs.length : Int) == 1) then WR.bad 5 else ⟨p, m, frobL p.toNat m xs, 0⟩) else WR.bad 1

set_option maxHeartbeats 4000000 in
set_option maxRecDepth 100000 in
theorem l13Frobenius_c (p : Nat) (m : Int) (v : Value) (xs : List Int) (w : World) (hp : P4 p) (hv : RdI w v xs) (h1 : 2 ≤ xs.length) (h4 : xs.length ≤ 4) (hm : 2 ≤ m) (hm' : m ≤ 10000)
    (hx : ∀ x ∈ xs, 0 ≤ x ∧ x ≤ 9000000000000000000) :
    Calls Try.prog 186 #[.agg #[.int .i64 p, .int .i64 m, v]] w fun e w' => VEnd w w' p m (frobL p m xs) e := by
  have hpb := hp.bounds
  have hpp := hp.pow3 (show xs.length - 2 ≤ 4 by omega)
  have hW := wide_bounds hp hm hm' (show xs.length - 2 ≤ 4 by omega)
  have HFL := Lib.hid (frG_FL hp (show 0 < m by omega) (xs.length - 2) xs (by omega))
  obtain ⟨W, hWe⟩ : ∃ W, m * (p : Int) ^ (xs.length - 2) = W := ⟨_, rfl⟩
  rw [hWe] at HFL
  have HW := Lib.hid hWe
  have hW0 : 2 ≤ W := by omega
  have hW1 : W ≤ 30000000 := by omega
  clear hWe
  obtain ⟨o, c, rfl, hmx, -⟩ := id hv
  unfold maxLen at hmx
  go_enter Try.func186, Try.ntmps186
  go_wp2_with fail
  (have X0 := (Box3.mk' w (.int .i64 p) (.int .i64 m) (.slice o xs.length c) 59).below (w' := (w.alloc (.cells #[.int .i64 p, .int .i64 m, .slice o xs.length c] 59)).alloc (.cells #[.int .i64 0, .int .i64 0, .slice none 0 0] 59)) (by (repeat (first | exact Below.refl _ _ | (refine Below.setCell ?_ (by first | (simp; done) | (simp; omega) | omega) _) | (refine Below.alloc ?_ (by first | (simp; done) | (simp; omega) | omega) _) | (refine below_drewN ?_ _) | (refine Below.drew ?_)))) (Nat.le_refl _); have R0 := RB3.mk2 w (.cells #[.int .i64 p, .int .i64 m, .slice o xs.length c] 59) (.int .i64 0) (.int .i64 0) (.slice none 0 0) 59; have B0 : Below w.heap.size w ((w.alloc (.cells #[.int .i64 p, .int .i64 m, .slice o xs.length c] 59)).alloc (.cells #[.int .i64 0, .int .i64 0, .slice none 0 0] 59)) := (by (repeat (first | exact Below.refl _ _ | (refine Below.setCell ?_ (by first | (simp; done) | (simp; omega) | omega) _) | (refine Below.alloc ?_ (by first | (simp; done) | (simp; omega) | omega) _) | (refine below_drewN ?_ _) | (refine Below.drew ?_)))); have hv0 := hv.below (w' := (w.alloc (.cells #[.int .i64 p, .int .i64 m, .slice o xs.length c] 59)).alloc (.cells #[.int .i64 0, .int .i64 0, .slice none 0 0] 59)) (by (repeat (first | exact Below.refl _ _ | (refine Below.setCell ?_ (by first | (simp; done) | (simp; omega) | omega) _) | (refine Below.alloc ?_ (by first | (simp; done) | (simp; omega) | omega) _) | (refine below_drewN ?_ _) | (refine Below.drew ?_)))) (Nat.le_refl _); generalize (w.alloc (.cells #[.int .i64 p, .int .i64 m, .slice o xs.length c] 59)).alloc (.cells #[.int .i64 0, .int .i64 0, .slice none 0 0] 59) = w0 at X0 R0 B0 hv0 ⊢)
  obtain ⟨k0, k1, k2⟩ := id X0
  have e0 : ((xs.length : Int) - 2).toNat = xs.length - 2 := by omega
  have e2 : IntKind.i64.wrap ((xs.length : Int) - 2) = (xs.length : Int) - 2 := IntWalk.i64_in _ (by omega)
  have e1 : IntKind.i64.wrap (m * (p : Int) ^ (xs.length - 2)) = W := by rw [HW.out]; exact IntWalk.i64_in _ (by omega)
  go_wp2_with fail
  clear k0 k1 k2
  go_cut [4, 5] (fun s8 s9 wx => s8 = .int .i64 W ∧ OwI wx (w.heap.size + 2) s9 [] ∧ Box3 wx w.heap.size (.int .i64 p) (.int .i64 m) (.slice o xs.length c) ∧ RB3 wx (w.heap.size + 1) (.int .i64 0) (.int .i64 0) (.slice none 0 0) ∧ Below w.heap.size w wx ∧ RdI wx (.slice o xs.length c) xs)
  case first =>
    obtain ⟨k0, k1, k2⟩ := id X0
    have O1 := ((OwI.lit w0 [] (by decide)).mono (show w.heap.size + 2 ≤ w0.heap.size from R0.1.lt)).drewN 1
    have hbw : Below w0.heap.size w0 (w0.alloc (.cells #[] 2)).drew := (by (repeat (first | exact Below.refl _ _ | (refine Below.setCell ?_ (by first | (simp; done) | (simp; omega) | omega) _) | (refine Below.alloc ?_ (by first | (simp; done) | (simp; omega) | omega) _) | (refine below_drewN ?_ _) | (refine Below.drew ?_))))
    have X4 := X0.below hbw (Nat.le_refl _)
    go_region_held3 (fun w' => w'.cell? ⟨w.heap.size, 0, none⟩ = some (.int .i64 p) ∧ w'.cell? ⟨w.heap.size, 1, none⟩ = some (.int .i64 m) ∧ w'.cell? ⟨w.heap.size, 2, none⟩ = some (.slice o xs.length c)) (first | exact X4 | go_keep)
      (first
        | (go_at_call 195; (refine (l13Raise_c _ _ (xs.length - 2) _ (by omega) (by omega) (by omega) (by omega)).mono ?_; rintro e w' ⟨rfl, rfl⟩)))
    all_goals (go_wp2_with fail; go_meet; exact ⟨rfl, O1, X4, R0.below hbw (Nat.le_refl _), B0.trans (hbw.mono B0.size), hv0.below hbw (Nat.le_refl _)⟩)
  case rest =>
  obtain ⟨rfl, O1, X1, R1, B1, hv1⟩ := hcut
  clear e0 e1 e2
  go_wp2_with fail
  go_loopw [5, 6] (fun s k wr => ∃ i : Nat, i ≤ xs.length - 1 ∧ k = .int .i64 ((i : Int) + 1) ∧ OwI wr (w.heap.size + 2) s (frG p W xs i) ∧ Box3 wr w.heap.size (.int .i64 p) (.int .i64 m) (.slice o xs.length c) ∧ RB3 wr (w.heap.size + 1) (.int .i64 0) (.int .i64 0) (.slice none 0 0) ∧ Below w.heap.size w wr) (fun _ k _ => xs.length - (intOf k).toNat)
  case atStart => exact ⟨0, Nat.zero_le _, rfl, O1, X1, R1, B1⟩
  case round =>
    obtain ⟨i, hi, rfl, hO, hX, hR, hB⟩ := hrel
    obtain ⟨ov, cv, rfl⟩ := hO.shapeN (n := i) (frG_len _ _ _ _)
    have hz := hR.1.lt
    by_cases hlt : i < xs.length - 1
    · have hlt' : (i : Int) + 1 < (xs.length : Int) := by omega
      have hG := mod_lt' (a := gh p (at0 xs) (i + 1)) (show 0 < W by omega)
      have hs := Lib.hid (frG_succ p W xs i)
      have hsl := Lib.hid (frG_len p W xs i)
      obtain ⟨k0, k1, k2⟩ := id hX
      have hvr := hv.below hB (Nat.le_refl _)
      go_wp2_with (first
        | (go_at_call 230; refine (l13Ghost_c p W _ xs _ (i + 1) _ hp hvr (by omega) (by omega) (by omega) (by omega) (by omega) hx).mono ?_; rintro e w2 ⟨rfl, d, rfl⟩; have hbw : Below wr.heap.size wr (wr.drewN d) := below_drewN (Below.refl _ _) _)
        | (at_builtin; refine apI (wr.drewN d) rfl _ _ rfl (w.heap.size + 2) (.slice ov i cv) _ rfl (hO.drewN d) _ rfl (by rw [hsl.out]; omega) (show w.heap.size + 2 ≤ wr.heap.size by omega) ?_; intro v' w4 hO3 hgr hb3 hlt3; clear hgr))
      rw [← hs.out] at hO3
      exact ⟨⟨i + 1, by omega, by go_num, hO3, (hX.below hbw (Nat.le_refl _)).belowB hb3 (by omega), (hR.below hbw (Nat.le_refl _)).belowB hb3 (by omega), (hB.trans (hbw.mono hB.size)).trans (hb3.mono (by omega))⟩, by simp [intOf]; omega⟩
    · obtain rfl : i = xs.length - 1 := by omega
      have Hdl : Hid ((frG p W xs (xs.length - 1)).length = xs.length - 1) := Lib.hid (frG_len _ _ _ _)
      have hdr := frG_range (p := p) (W := W) (xs := xs) (k := xs.length - 1) (by omega)
      have HcW := Lib.hid (show m * (p : Int) ^ ((frG p W xs (xs.length - 1)).length - 1) = W by rw [Hdl.out, show xs.length - 1 - 1 = xs.length - 2 by omega]; exact HW.out)
      have Hop : Hid ((frobL p m xs).length = xs.length - 1) := Lib.hid (frobL_len _ _ _)
      have hge : ¬ ((xs.length - 1 : Nat) : Int) + 1 < (xs.length : Int) := by omega
      go_wp2_with fail
      have hd0 : Below wr.heap.size wr wr.drew := (Below.refl _ _).drew
      have hsd0 := hd0.size
      have hrl := hR.1.lt
      have hneR_hX : w.heap.size + 1 ≠ w.heap.size := by omega
      obtain ⟨⟨q0_R_0, q0_R_1, q0_R_2⟩, qf0_R⟩ := hR.below (Below.refl wr.heap.size wr) (Nat.le_refl _)
      obtain ⟨q0_hX_0, q0_hX_1, q0_hX_2⟩ := hX.below (Below.refl wr.heap.size wr) (Nat.le_refl _)
      go_region_held3 (fun w' => w'.cell? ⟨w.heap.size, 0, none⟩ = some (.int .i64 p) ∧ w'.cell? ⟨w.heap.size, 1, none⟩ = some (.int .i64 m) ∧ w'.cell? ⟨w.heap.size, 2, none⟩ = some (.slice o xs.length c)) (go_keep)
        (first
          | (go_at_call 231; refine (l13From_c p m W _ (frG p W xs (xs.length - 1)) _ hp ((hO.rd).below (by (repeat (first | exact Below.refl _ _ | (refine Below.setCell ?_ (by first | (simp; done) | (simp; omega) | omega) _) | (refine Below.alloc ?_ (by first | (simp; done) | (simp; omega) | omega) _) | (refine below_drewN ?_ _) | (refine Below.drew ?_)))) (Nat.le_refl _)) (by rw [Hdl.out]; omega) (by rw [Hdl.out]; omega) hm hm' HcW.out hdr).mono ?_; rintro e wd1 ⟨va1, rfl, hod1, hbd1⟩; rw [HFL.out] at hod1; obtain ⟨oa, ca, rfl⟩ := hod1.shapeN (n := xs.length - 1) Hop.out; have hd1 : Below wr.heap.size wr wd1 := (by (repeat (first | exact Below.refl _ _ | (refine Below.setCell ?_ (by first | (simp; done) | (simp; omega) | omega) _) | (refine Below.alloc ?_ (by first | (simp; done) | (simp; omega) | omega) _) | (refine below_drewN ?_ _) | (refine Below.drew ?_) | (refine Below.trans ?_ (Below.mono hbd1 (by first | (simp; done) | (simp; omega) | omega)))))); have hsd1 := hd1.size; have hsz1_ := hbd1.size; (try simp at hsz1_); obtain ⟨⟨q1_R_0, q1_R_1, q1_R_2⟩, qf1_R⟩ := hR.below hd1 (Nat.le_refl _); obtain ⟨q1_hX_0, q1_hX_1, q1_hX_2⟩ := hX.below hd1 (Nat.le_refl _))
          | (go_at_call 182; refine (l13With_c p m _ _ _ _ _ _ _).mono ?_; rintro e wd2 ⟨rfl, hbd2⟩; have hd2 : Below wr.heap.size wr wd2 := (by (repeat (first | exact Below.refl _ _ | (refine Below.setCell ?_ (by first | (simp; done) | (simp; omega) | omega) _) | (refine Below.alloc ?_ (by first | (simp; done) | (simp; omega) | omega) _) | (refine below_drewN ?_ _) | (refine Below.drew ?_) | (refine Below.trans ?_ (Below.mono hbd1 (by first | (simp; done) | (simp; omega) | omega))) | (refine Below.trans ?_ (Below.mono hbd2 (by first | (simp; done) | (simp; omega) | omega)))))); have hsd2 := hd2.size; have hsz2_ := hbd2.size; (try simp at hsz2_); obtain ⟨⟨q2_R_0, q2_R_1, q2_R_2⟩, qf2_R⟩ := hR.below hd2 (Nat.le_refl _); obtain ⟨q2_hX_0, q2_hX_1, q2_hX_2⟩ := hX.below hd2 (Nat.le_refl _)))
      go_wp2
      refine bodyPost_ret (v := .agg #[.int .i64 p, .int .i64 m, .slice oa (xs.length - 1) ca]) (by simp [results, Try.results186, go_sem, q2_R_0, q2_R_1, q2_R_2]) rfl ⟨_, rfl, ?_, ?_⟩
      · have hbsz := hB.size
        exact ((((hod1.below (by (repeat (first | exact Below.refl _ _ | (refine Below.setCell ?_ (by first | (simp; done) | (simp; omega) | omega) _) | (refine Below.alloc ?_ (by first | (simp; done) | (simp; omega) | omega) _) | (refine below_drewN ?_ _) | (refine Below.drew ?_) | (refine Below.trans ?_ (Below.mono hbd2 (by first | (simp; done) | (simp; omega) | omega))))))).low (by first | (simp; done) | (simp; omega) | omega) _).low (by first | (simp; done) | (simp; omega) | omega) _).low (by first | (simp; done) | (simp; omega) | omega) _).mono (by first | (simp; done) | (simp; omega) | omega)
      · have hbsz := hB.size
        (repeat (first | exact Below.refl _ _ | (refine Below.setCell ?_ (by first | (simp; done) | (simp; omega) | omega) _) | (refine Below.alloc ?_ (by first | (simp; done) | (simp; omega) | omega) _) | (refine below_drewN ?_ _) | (refine Below.drew ?_) | (refine Below.trans ?_ (Below.mono hbd1 (by first | (simp; done) | (simp; omega) | omega))) | (refine Below.trans ?_ (Below.mono hbd2 (by first | (simp; done) | (simp; omega) | omega))) | (refine Below.trans ?_ (Below.mono hB (by first | (simp; done) | (simp; omega) | omega)))))

set_option maxHeartbeats 4000000 in
set_option maxRecDepth 100000 in
theorem sFrobeniusOf_c (p m : Int) (v : Value) (xs : List Int) (w : World) (hv : RdI w v xs) :
    Calls Try.prog 74 #[.agg #[.int .i64 p, .int .i64 m, v]] w fun e w' => WEnd w w' (frobR p m xs) e := by
  obtain ⟨o, c, rfl, hmx, hh⟩ := id hv
  clear hh
  have hml := hmx.1
  unfold maxLen at hmx
  cases hs : wittB p m xs
  · have hR : frobR p m xs = WR.bad 1 := by simp [frobR, hs]
    rw [hR]
    go_enter Try.func74, Try.ntmps74
    go_wp2_with fail
    (have X0 := (Box3.mk' w (.int .i64 p) (.int .i64 m) (.slice o xs.length c) 59).below (w' := (w.alloc (.cells #[.int .i64 p, .int .i64 m, .slice o xs.length c] 59)).alloc (.cells #[.int .i64 0, .int .i64 0, .slice none 0 0] 59)) (by (repeat (first | exact Below.refl _ _ | (refine Below.setCell ?_ (by first | (simp; done) | (simp; omega) | omega) _) | (refine Below.alloc ?_ (by first | (simp; done) | (simp; omega) | omega) _) | (refine below_drewN ?_ _) | (refine Below.drew ?_)))) (Nat.le_refl _); have R0 := RB3.mk2 w (.cells #[.int .i64 p, .int .i64 m, .slice o xs.length c] 59) (.int .i64 0) (.int .i64 0) (.slice none 0 0) 59; have B0 : Below w.heap.size w ((w.alloc (.cells #[.int .i64 p, .int .i64 m, .slice o xs.length c] 59)).alloc (.cells #[.int .i64 0, .int .i64 0, .slice none 0 0] 59)) := (by (repeat (first | exact Below.refl _ _ | (refine Below.setCell ?_ (by first | (simp; done) | (simp; omega) | omega) _) | (refine Below.alloc ?_ (by first | (simp; done) | (simp; omega) | omega) _) | (refine below_drewN ?_ _) | (refine Below.drew ?_)))); have hv0 := hv.below (w' := (w.alloc (.cells #[.int .i64 p, .int .i64 m, .slice o xs.length c] 59)).alloc (.cells #[.int .i64 0, .int .i64 0, .slice none 0 0] 59)) (by (repeat (first | exact Below.refl _ _ | (refine Below.setCell ?_ (by first | (simp; done) | (simp; omega) | omega) _) | (refine Below.alloc ?_ (by first | (simp; done) | (simp; omega) | omega) _) | (refine below_drewN ?_ _) | (refine Below.drew ?_)))) (Nat.le_refl _); generalize (w.alloc (.cells #[.int .i64 p, .int .i64 m, .slice o xs.length c] 59)).alloc (.cells #[.int .i64 0, .int .i64 0, .slice none 0 0] 59) = w0 at X0 R0 B0 hv0 ⊢)
    refine (l13Is_c p m _ xs _ hv0).mono ?_
    rw [hs]
    rintro e w1 ⟨rfl, hb⟩
    (have R1 := R0.below hb (Nat.le_refl _); have B1 := B0.trans (hb.mono B0.size))
    obtain ⟨⟨r0, r1, r2⟩, rf⟩ := id R1
    go_wp2
    exact bodyPost_ret (v := .tuple #[.agg #[.int .i64 0, .int .i64 0, .slice none 0 0], .int .i64 1]) (by simp [results, Try.results74, go_sem, r0, r1, r2]) rfl ⟨_, rfl, OwI.nil _ _, (by (repeat (first | exact Below.refl _ _ | (refine Below.setCell ?_ (by first | (simp; done) | (simp; omega) | omega) _) | (refine Below.alloc ?_ (by first | (simp; done) | (simp; omega) | omega) _) | (refine below_drewN ?_ _) | (refine Below.drew ?_) | (refine Below.trans ?_ (Below.mono B1 (by first | (simp; done) | (simp; omega) | omega)))))), by simp [WR.bad]⟩
  · have hn := witt_len hs
    have hm := witt_m hs
    have hx := witt_x hs
    cases h1 : ((xs.length : Int) == 1)
    · have hR : frobR p m xs = ⟨p, m, frobL p.toNat m xs, 0⟩ := by simp only [frobR, hs, h1]; rfl
      rw [hR]
      clear hR
      have hn2 : 2 ≤ xs.length := by simp at h1; omega
      obtain ⟨hp, hpe⟩ := witt_P4 hs
      generalize p.toNat = k at hp hpe ⊢
      subst hpe
      have hWb := (wide_bounds hp (show 2 ≤ m by omega) (show m ≤ 10000 by omega) (show 4 ≤ 4 by omega))
      have HJ := Lib.hid (frG_FL hp (show 0 < m by omega) 4 xs (by omega))
      rw [← frG_drop] at HJ
      have Hop : Hid ((frobL k m xs).length = xs.length - 1) := Lib.hid (frobL_len _ _ _)
      have hlen : (frobL k m xs).length ≤ 1048576 := by rw [Hop.out]; omega
      go_enter Try.func74, Try.ntmps74
      go_wp2_with fail
      (have X0 := (Box3.mk' w (.int .i64 k) (.int .i64 m) (.slice o xs.length c) 59).below (w' := (w.alloc (.cells #[.int .i64 k, .int .i64 m, .slice o xs.length c] 59)).alloc (.cells #[.int .i64 0, .int .i64 0, .slice none 0 0] 59)) (by (repeat (first | exact Below.refl _ _ | (refine Below.setCell ?_ (by first | (simp; done) | (simp; omega) | omega) _) | (refine Below.alloc ?_ (by first | (simp; done) | (simp; omega) | omega) _) | (refine below_drewN ?_ _) | (refine Below.drew ?_)))) (Nat.le_refl _); have R0 := RB3.mk2 w (.cells #[.int .i64 k, .int .i64 m, .slice o xs.length c] 59) (.int .i64 0) (.int .i64 0) (.slice none 0 0) 59; have B0 : Below w.heap.size w ((w.alloc (.cells #[.int .i64 k, .int .i64 m, .slice o xs.length c] 59)).alloc (.cells #[.int .i64 0, .int .i64 0, .slice none 0 0] 59)) := (by (repeat (first | exact Below.refl _ _ | (refine Below.setCell ?_ (by first | (simp; done) | (simp; omega) | omega) _) | (refine Below.alloc ?_ (by first | (simp; done) | (simp; omega) | omega) _) | (refine below_drewN ?_ _) | (refine Below.drew ?_)))); have hv0 := hv.below (w' := (w.alloc (.cells #[.int .i64 k, .int .i64 m, .slice o xs.length c] 59)).alloc (.cells #[.int .i64 0, .int .i64 0, .slice none 0 0] 59)) (by (repeat (first | exact Below.refl _ _ | (refine Below.setCell ?_ (by first | (simp; done) | (simp; omega) | omega) _) | (refine Below.alloc ?_ (by first | (simp; done) | (simp; omega) | omega) _) | (refine below_drewN ?_ _) | (refine Below.drew ?_)))) (Nat.le_refl _); generalize (w.alloc (.cells #[.int .i64 k, .int .i64 m, .slice o xs.length c] 59)).alloc (.cells #[.int .i64 0, .int .i64 0, .slice none 0 0] 59) = w0 at X0 R0 B0 hv0 ⊢)
      refine (l13Is_c k m _ xs _ hv0).mono ?_
      rw [hs]
      rintro e w1 ⟨rfl, hb⟩
      (have X1 := X0.below hb (Nat.le_refl _); have R1 := R0.below hb (Nat.le_refl _); have hv1 := hv0.below hb (Nat.le_refl _); have B1 := B0.trans (hb.mono B0.size))
      obtain ⟨k0, k1, k2⟩ := id X1
      go_wp2_with fail
      refine (l13Frobenius_c k m _ xs _ hp hv1 hn2 (by omega) (by omega) (by omega) (fun x h => by have := hx x h; omega)).mono ?_
      rintro e w2 ⟨v2, rfl, how, hb2⟩
      obtain ⟨o2, c2, rfl⟩ := how.shapeN (n := xs.length - 1) Hop.out
      have hz := R1.1.lt
      have hB1 := B1.size
      (have R2 := R1.below hb2 (Nat.le_refl _); have B2 := B1.trans (hb2.mono B1.size))
      obtain ⟨⟨r0, r1, r2⟩, rf⟩ := id R2
      go_wp2
      refine bodyPost_ret (v := .tuple #[.agg #[.int .i64 k, .int .i64 m, .slice o2 (xs.length - 1) c2], .int .i64 0]) (by simp [results, Try.results74, go_sem, r0, r1, r2]) rfl ⟨_, rfl, ?_, ?_, hlen⟩
      · exact ((((how.low hz _).low hz _).low hz _)).mono hB1
      · (repeat (first | exact Below.refl _ _ | (refine Below.setCell ?_ (by first | (simp; done) | (simp; omega) | omega) _) | (refine Below.alloc ?_ (by first | (simp; done) | (simp; omega) | omega) _) | (refine below_drewN ?_ _) | (refine Below.drew ?_) | (refine Below.trans ?_ (Below.mono B2 (by first | (simp; done) | (simp; omega) | omega)))))
    · have hR : frobR p m xs = WR.bad 5 := by simp only [frobR, hs, h1]; rfl
      rw [hR]
      clear hR
      go_enter Try.func74, Try.ntmps74
      go_wp2_with fail
      (have X0 := (Box3.mk' w (.int .i64 p) (.int .i64 m) (.slice o xs.length c) 59).below (w' := (w.alloc (.cells #[.int .i64 p, .int .i64 m, .slice o xs.length c] 59)).alloc (.cells #[.int .i64 0, .int .i64 0, .slice none 0 0] 59)) (by (repeat (first | exact Below.refl _ _ | (refine Below.setCell ?_ (by first | (simp; done) | (simp; omega) | omega) _) | (refine Below.alloc ?_ (by first | (simp; done) | (simp; omega) | omega) _) | (refine below_drewN ?_ _) | (refine Below.drew ?_)))) (Nat.le_refl _); have R0 := RB3.mk2 w (.cells #[.int .i64 p, .int .i64 m, .slice o xs.length c] 59) (.int .i64 0) (.int .i64 0) (.slice none 0 0) 59; have B0 : Below w.heap.size w ((w.alloc (.cells #[.int .i64 p, .int .i64 m, .slice o xs.length c] 59)).alloc (.cells #[.int .i64 0, .int .i64 0, .slice none 0 0] 59)) := (by (repeat (first | exact Below.refl _ _ | (refine Below.setCell ?_ (by first | (simp; done) | (simp; omega) | omega) _) | (refine Below.alloc ?_ (by first | (simp; done) | (simp; omega) | omega) _) | (refine below_drewN ?_ _) | (refine Below.drew ?_)))); have hv0 := hv.below (w' := (w.alloc (.cells #[.int .i64 p, .int .i64 m, .slice o xs.length c] 59)).alloc (.cells #[.int .i64 0, .int .i64 0, .slice none 0 0] 59)) (by (repeat (first | exact Below.refl _ _ | (refine Below.setCell ?_ (by first | (simp; done) | (simp; omega) | omega) _) | (refine Below.alloc ?_ (by first | (simp; done) | (simp; omega) | omega) _) | (refine below_drewN ?_ _) | (refine Below.drew ?_)))) (Nat.le_refl _); generalize (w.alloc (.cells #[.int .i64 p, .int .i64 m, .slice o xs.length c] 59)).alloc (.cells #[.int .i64 0, .int .i64 0, .slice none 0 0] 59) = w0 at X0 R0 B0 hv0 ⊢)
      refine (l13Is_c p m _ xs _ hv0).mono ?_
      rw [hs]
      rintro e w1 ⟨rfl, hb⟩
      (have X1 := X0.below hb (Nat.le_refl _); have R1 := R0.below hb (Nat.le_refl _); have B1 := B0.trans (hb.mono B0.size))
      obtain ⟨k0, k1, k2⟩ := id X1
      obtain ⟨⟨r0, r1, r2⟩, rf⟩ := id R1
      go_wp2
      exact bodyPost_ret (v := .tuple #[.agg #[.int .i64 0, .int .i64 0, .slice none 0 0], .int .i64 5]) (by simp [results, Try.results74, go_sem, r0, r1, r2]) rfl ⟨_, rfl, OwI.nil _ _, (by (repeat (first | exact Below.refl _ _ | (refine Below.setCell ?_ (by first | (simp; done) | (simp; omega) | omega) _) | (refine Below.alloc ?_ (by first | (simp; done) | (simp; omega) | omega) _) | (refine below_drewN ?_ _) | (refine Below.drew ?_) | (refine Below.trans ?_ (Below.mono B1 (by first | (simp; done) | (simp; omega) | omega)))))), by simp [WR.bad]⟩

set_option maxHeartbeats 4000000 in
set_option maxRecDepth 100000 in
theorem FrobeniusOf_c (p m : Int) (v : Value) (xs : List Int) (w : World) (hv : RdI w v xs) :
    Calls Try.prog 73 #[.agg #[.int .i64 p, .int .i64 m, v]] w fun e w' => WEnd w w' (frobR p m xs) e := by
  obtain ⟨o, c, rfl, hmx, hh⟩ := id hv
  clear hh
  have hml := hmx.1
  unfold maxLen at hmx
  cases hs : wittB p m xs
  · have hR : frobR p m xs = WR.bad 1 := by simp [frobR, hs]
    rw [hR]
    go_enter Try.func73, Try.ntmps73
    go_wp2_with fail
    (have X0 := (Box3.mk' w (.int .i64 p) (.int .i64 m) (.slice o xs.length c) 59).below (w' := (w.alloc (.cells #[.int .i64 p, .int .i64 m, .slice o xs.length c] 59)).alloc (.cells #[.int .i64 0, .int .i64 0, .slice none 0 0] 59)) (by (repeat (first | exact Below.refl _ _ | (refine Below.setCell ?_ (by first | (simp; done) | (simp; omega) | omega) _) | (refine Below.alloc ?_ (by first | (simp; done) | (simp; omega) | omega) _) | (refine below_drewN ?_ _) | (refine Below.drew ?_)))) (Nat.le_refl _); have R0 := RB3.mk2 w (.cells #[.int .i64 p, .int .i64 m, .slice o xs.length c] 59) (.int .i64 0) (.int .i64 0) (.slice none 0 0) 59; have B0 : Below w.heap.size w ((w.alloc (.cells #[.int .i64 p, .int .i64 m, .slice o xs.length c] 59)).alloc (.cells #[.int .i64 0, .int .i64 0, .slice none 0 0] 59)) := (by (repeat (first | exact Below.refl _ _ | (refine Below.setCell ?_ (by first | (simp; done) | (simp; omega) | omega) _) | (refine Below.alloc ?_ (by first | (simp; done) | (simp; omega) | omega) _) | (refine below_drewN ?_ _) | (refine Below.drew ?_)))); have hv0 := hv.below (w' := (w.alloc (.cells #[.int .i64 p, .int .i64 m, .slice o xs.length c] 59)).alloc (.cells #[.int .i64 0, .int .i64 0, .slice none 0 0] 59)) (by (repeat (first | exact Below.refl _ _ | (refine Below.setCell ?_ (by first | (simp; done) | (simp; omega) | omega) _) | (refine Below.alloc ?_ (by first | (simp; done) | (simp; omega) | omega) _) | (refine below_drewN ?_ _) | (refine Below.drew ?_)))) (Nat.le_refl _); generalize (w.alloc (.cells #[.int .i64 p, .int .i64 m, .slice o xs.length c] 59)).alloc (.cells #[.int .i64 0, .int .i64 0, .slice none 0 0] 59) = w0 at X0 R0 B0 hv0 ⊢)
    refine (IsWitt_c p m _ xs _ hv0).mono ?_
    rw [hs]
    rintro e w1 ⟨rfl, hb⟩
    (have R1 := R0.below hb (Nat.le_refl _); have B1 := B0.trans (hb.mono B0.size))
    obtain ⟨⟨r0, r1, r2⟩, rf⟩ := id R1
    go_wp2
    exact bodyPost_ret (v := .tuple #[.agg #[.int .i64 0, .int .i64 0, .slice none 0 0], .int .i64 1]) (by simp [results, Try.results73, go_sem, r0, r1, r2]) rfl ⟨_, rfl, OwI.nil _ _, (by (repeat (first | exact Below.refl _ _ | (refine Below.setCell ?_ (by first | (simp; done) | (simp; omega) | omega) _) | (refine Below.alloc ?_ (by first | (simp; done) | (simp; omega) | omega) _) | (refine below_drewN ?_ _) | (refine Below.drew ?_) | (refine Below.trans ?_ (Below.mono B1 (by first | (simp; done) | (simp; omega) | omega)))))), by simp [WR.bad]⟩
  · have hn := witt_len hs
    have hm := witt_m hs
    have hx := witt_x hs
    cases h1 : ((xs.length : Int) == 1)
    · have hR : frobR p m xs = ⟨p, m, frobL p.toNat m xs, 0⟩ := by simp only [frobR, hs, h1]; rfl
      rw [hR]
      clear hR
      have hn2 : 2 ≤ xs.length := by simp at h1; omega
      obtain ⟨hp, hpe⟩ := witt_P4 hs
      generalize p.toNat = k at hp hpe ⊢
      subst hpe
      have hWb := (wide_bounds hp (show 2 ≤ m by omega) (show m ≤ 10000 by omega) (show 4 ≤ 4 by omega))
      have HJ := Lib.hid (frG_FL hp (show 0 < m by omega) 4 xs (by omega))
      have Hop : Hid ((frobL k m xs).length = xs.length - 1) := Lib.hid (frobL_len _ _ _)
      have hlen : (frobL k m xs).length ≤ 1048576 := by rw [Hop.out]; omega
      go_enter Try.func73, Try.ntmps73
      go_wp2_with fail
      (have X0 := (Box3.mk' w (.int .i64 k) (.int .i64 m) (.slice o xs.length c) 59).below (w' := (w.alloc (.cells #[.int .i64 k, .int .i64 m, .slice o xs.length c] 59)).alloc (.cells #[.int .i64 0, .int .i64 0, .slice none 0 0] 59)) (by (repeat (first | exact Below.refl _ _ | (refine Below.setCell ?_ (by first | (simp; done) | (simp; omega) | omega) _) | (refine Below.alloc ?_ (by first | (simp; done) | (simp; omega) | omega) _) | (refine below_drewN ?_ _) | (refine Below.drew ?_)))) (Nat.le_refl _); have R0 := RB3.mk2 w (.cells #[.int .i64 k, .int .i64 m, .slice o xs.length c] 59) (.int .i64 0) (.int .i64 0) (.slice none 0 0) 59; have B0 : Below w.heap.size w ((w.alloc (.cells #[.int .i64 k, .int .i64 m, .slice o xs.length c] 59)).alloc (.cells #[.int .i64 0, .int .i64 0, .slice none 0 0] 59)) := (by (repeat (first | exact Below.refl _ _ | (refine Below.setCell ?_ (by first | (simp; done) | (simp; omega) | omega) _) | (refine Below.alloc ?_ (by first | (simp; done) | (simp; omega) | omega) _) | (refine below_drewN ?_ _) | (refine Below.drew ?_)))); have hv0 := hv.below (w' := (w.alloc (.cells #[.int .i64 k, .int .i64 m, .slice o xs.length c] 59)).alloc (.cells #[.int .i64 0, .int .i64 0, .slice none 0 0] 59)) (by (repeat (first | exact Below.refl _ _ | (refine Below.setCell ?_ (by first | (simp; done) | (simp; omega) | omega) _) | (refine Below.alloc ?_ (by first | (simp; done) | (simp; omega) | omega) _) | (refine below_drewN ?_ _) | (refine Below.drew ?_)))) (Nat.le_refl _); generalize (w.alloc (.cells #[.int .i64 k, .int .i64 m, .slice o xs.length c] 59)).alloc (.cells #[.int .i64 0, .int .i64 0, .slice none 0 0] 59) = w0 at X0 R0 B0 hv0 ⊢)
      refine (IsWitt_c k m _ xs _ hv0).mono ?_
      rw [hs]
      rintro e w1 ⟨rfl, hb⟩
      (have X1 := X0.below hb (Nat.le_refl _); have R1 := R0.below hb (Nat.le_refl _); have hv1 := hv0.below hb (Nat.le_refl _); have B1 := B0.trans (hb.mono B0.size))
      obtain ⟨k0, k1, k2⟩ := id X1
      go_wp2_with fail
      have hd0 : Below w1.heap.size w1 w1.drew := (Below.refl _ _).drew
      have hsd0 := hd0.size
      have hlb_R1 := R1.1.lt
      obtain ⟨⟨q0_R1_0, q0_R1_1, q0_R1_2⟩, qf0_R1⟩ := R1.below (Below.refl w1.heap.size w1) (Nat.le_refl _)
      obtain ⟨q0_X1_0, q0_X1_1, q0_X1_2⟩ := X1.below (Below.refl w1.heap.size w1) (Nat.le_refl _)
      refine wp_region_S (S := fun w' => w'.cell? ⟨(w.heap.size + 1) , 0, none⟩ = some (.int .i64 0) ∧ w'.cell? ⟨(w.heap.size + 1) , 1, none⟩ = some (.int .i64 0) ∧ w'.cell? ⟨(w.heap.size + 1) , 2, none⟩ = some (.slice none 0 0) ∧ w'.cell? ⟨w.heap.size, 0, none⟩ = some (.int .i64 k) ∧ w'.cell? ⟨w.heap.size, 1, none⟩ = some (.int .i64 m) ∧ w'.cell? ⟨w.heap.size, 2, none⟩ = some (.slice o xs.length c)) 7 (by kernel_rfl) ?_
      have hHeld : (fun w' : World => w'.cell? ⟨(w.heap.size + 1) , 0, none⟩ = some (.int .i64 0) ∧ w'.cell? ⟨(w.heap.size + 1) , 1, none⟩ = some (.int .i64 0) ∧ w'.cell? ⟨(w.heap.size + 1) , 2, none⟩ = some (.slice none 0 0) ∧ w'.cell? ⟨w.heap.size, 0, none⟩ = some (.int .i64 k) ∧ w'.cell? ⟨w.heap.size, 1, none⟩ = some (.int .i64 m) ∧ w'.cell? ⟨w.heap.size, 2, none⟩ = some (.slice o xs.length c)) w1.drew := by go_keep
      refine' wpAnyS_takeL (i := 0) (v := _) rfl (by kernel_rfl) (by kernel_rfl) (by kernel_rfl) (by kernel_rfl) (fun _ _ _ h => h) (Or.inl ⟨by rfl, ?yT1⟩) hHeld ?rT1
      case yT1 => (intro w' hSw; (try dsimp only at hSw); go_simp; try with_reducible rfl)
      try simp only [List.getElem_toArray, List.getElem_cons_zero, List.getElem_cons_succ, Act.put, List.setIfInBounds_toArray, List.set_cons_zero, List.set_cons_succ]
      refine' wpAnyS_takeL (i := 1) (v := _) rfl (by kernel_rfl) (by kernel_rfl) (by kernel_rfl) (by kernel_rfl) (fun _ _ _ h => h) (Or.inl ⟨by rfl, ?yT2⟩) hHeld ?rT2
      case yT2 => (intro w' hSw; (try dsimp only at hSw); go_simp; try with_reducible rfl)
      try simp only [List.getElem_toArray, List.getElem_cons_zero, List.getElem_cons_succ, Act.put, List.setIfInBounds_toArray, List.set_cons_zero, List.set_cons_succ]
      refine' wpAnyS_takeL (i := 2) (v := _) rfl (by kernel_rfl) (by kernel_rfl) (by kernel_rfl) (by kernel_rfl) (fun _ _ _ h => h) (Or.inl ⟨by rfl, ?yT3⟩) hHeld ?rT3
      case yT3 => (intro w' hSw; (try dsimp only at hSw); go_simp; try with_reducible rfl)
      try simp only [List.getElem_toArray, List.getElem_cons_zero, List.getElem_cons_succ, Act.put, List.setIfInBounds_toArray, List.set_cons_zero, List.set_cons_succ]
      refine wpAnyS_oneL (i := 3) rfl (by kernel_rfl) (fun K hK => ?_)
      go_simp
      go_at_call 170
      refine (wide_c k m o xs.length c _ hp (by omega) (by omega)).mono ?_
      rintro e wd1 ⟨rfl, hbd1⟩
      have hd1 : Below w1.heap.size w1 wd1 := (by (repeat (first | exact Below.refl _ _ | (refine Below.setCell ?_ (by first | (simp; done) | (simp; omega) | omega) _) | (refine Below.alloc ?_ (by first | (simp; done) | (simp; omega) | omega) _) | (refine below_drewN ?_ _) | (refine Below.drew ?_) | (refine Below.trans ?_ (Below.mono hbd1 (by first | (simp; done) | (simp; omega) | omega))))))
      have hsd1 := hd1.size
      obtain ⟨⟨q1_R1_0, q1_R1_1, q1_R1_2⟩, qf1_R1⟩ := R1.below hd1 (Nat.le_refl _)
      obtain ⟨q1_X1_0, q1_X1_1, q1_X1_2⟩ := X1.below hd1 (Nat.le_refl _)
      go_wp2_with fail
      clear hHeld
      have hHeld : (fun w' : World => w'.cell? ⟨(w.heap.size + 1) , 0, none⟩ = some (.int .i64 0) ∧ w'.cell? ⟨(w.heap.size + 1) , 1, none⟩ = some (.int .i64 0) ∧ w'.cell? ⟨(w.heap.size + 1) , 2, none⟩ = some (.slice none 0 0) ∧ w'.cell? ⟨w.heap.size, 0, none⟩ = some (.int .i64 k) ∧ w'.cell? ⟨w.heap.size, 1, none⟩ = some (.int .i64 m) ∧ w'.cell? ⟨w.heap.size, 2, none⟩ = some (.slice o xs.length c)) wd1 := by go_keep
      refine hK.out _ _ (fun _ => hHeld) ?_
      clear hK K
      try simp only [List.getElem_toArray, List.getElem_cons_zero, List.getElem_cons_succ, Act.put, List.setIfInBounds_toArray, List.set_cons_zero, List.set_cons_succ]
      refine wpAnyS_oneL (i := 4) rfl (by kernel_rfl) (fun K hK => ?_)
      go_simp
      go_at_call 184
      refine (ghosts_c k (m * (k : Int) ^ 4) m _ xs _ hp ((hv1).below (by (repeat (first | exact Below.refl _ _ | (refine Below.setCell ?_ (by first | (simp; done) | (simp; omega) | omega) _) | (refine Below.alloc ?_ (by first | (simp; done) | (simp; omega) | omega) _) | (refine below_drewN ?_ _) | (refine Below.drew ?_) | (refine Below.trans ?_ (Below.mono hbd1 (by first | (simp; done) | (simp; omega) | omega)))))) (Nat.le_refl _)) (by omega) (by omega) (by omega) (fun x h => by have := hx x h; omega)).mono ?_
      rintro e wd2 ⟨vg2, rfl, hod2, hbd2⟩
      obtain ⟨og, cg, rfl⟩ := hod2.shapeN (n := xs.length) (ghL_len _ _ _ _); obtain ⟨gg, rfl, -, -⟩ := hod2.row (by omega); have hcg := hod2.rd.len.2.2; rw [ghL_len] at hcg; have hrd : RdI wd2 (.slice (Option.some ⟨gg, 1, none⟩) (xs.length - 1) (cg - 1)) (frG k (m * (k : Int) ^ 4) xs (xs.length - 1)) := (by have h := rdI_drop hod2.rd 1 (by rw [ghL_len]; omega); rw [frG_drop, Nat.zero_add] at h; exact h); have hi1 : 1 ≤ xs.length := (by omega); have hi2 : (1 : Int) ≤ (xs.length : Int) := (by omega); have hi3 : 1 ≤ cg := (by omega); have hi4 : ¬ cg = 1 := (by omega)
      have hd2 : Below w1.heap.size w1 wd2 := (by (repeat (first | exact Below.refl _ _ | (refine Below.setCell ?_ (by first | (simp; done) | (simp; omega) | omega) _) | (refine Below.alloc ?_ (by first | (simp; done) | (simp; omega) | omega) _) | (refine below_drewN ?_ _) | (refine Below.drew ?_) | (refine Below.trans ?_ (Below.mono hbd1 (by first | (simp; done) | (simp; omega) | omega))) | (refine Below.trans ?_ (Below.mono hbd2 (by first | (simp; done) | (simp; omega) | omega))))))
      have hsd2 := hd2.size
      obtain ⟨⟨q2_R1_0, q2_R1_1, q2_R1_2⟩, qf2_R1⟩ := R1.below hd2 (Nat.le_refl _)
      obtain ⟨q2_X1_0, q2_X1_1, q2_X1_2⟩ := X1.below hd2 (Nat.le_refl _)
      go_wp2_with fail
      clear hHeld
      have hHeld : (fun w' : World => w'.cell? ⟨(w.heap.size + 1) , 0, none⟩ = some (.int .i64 0) ∧ w'.cell? ⟨(w.heap.size + 1) , 1, none⟩ = some (.int .i64 0) ∧ w'.cell? ⟨(w.heap.size + 1) , 2, none⟩ = some (.slice none 0 0) ∧ w'.cell? ⟨w.heap.size, 0, none⟩ = some (.int .i64 k) ∧ w'.cell? ⟨w.heap.size, 1, none⟩ = some (.int .i64 m) ∧ w'.cell? ⟨w.heap.size, 2, none⟩ = some (.slice o xs.length c)) wd2 := by go_keep
      refine hK.out _ _ (fun _ => hHeld) ?_
      clear hK K
      try simp only [List.getElem_toArray, List.getElem_cons_zero, List.getElem_cons_succ, Act.put, List.setIfInBounds_toArray, List.set_cons_zero, List.set_cons_succ]
      refine' wpAnyS_takeL (i := 5) (v := _) rfl (by kernel_rfl) (by kernel_rfl) (by kernel_rfl) (by kernel_rfl) (fun _ _ _ h => h) (Or.inl ⟨by rfl, ?yT4⟩) hHeld ?rT4
      case yT4 => (intro w' hSw; (try dsimp only at hSw); go_simp; try with_reducible rfl)
      try simp only [List.getElem_toArray, List.getElem_cons_zero, List.getElem_cons_succ, Act.put, List.setIfInBounds_toArray, List.set_cons_zero, List.set_cons_succ]
      refine wpAnyS_oneL (i := 6) rfl (by kernel_rfl) (fun K hK => ?_)
      go_simp
      go_at_call 185
      refine (withGhosts_c k m (m * (k : Int) ^ 4) _ (frG k (m * (k : Int) ^ 4) xs (xs.length - 1)) o xs.length c wd2 hp hrd (by rw [frG_len]; omega) (by omega) (by omega) rfl (frG_range (by omega))).mono ?_
      rintro e wd3 ⟨va3, rfl, hod3, hbd3⟩
      rw [HJ.out] at hod3; obtain ⟨oa, ca, rfl⟩ := hod3.shapeN (n := xs.length - 1) Hop.out
      have hd3 : Below w1.heap.size w1 wd3 := (by (repeat (first | exact Below.refl _ _ | (refine Below.setCell ?_ (by first | (simp; done) | (simp; omega) | omega) _) | (refine Below.alloc ?_ (by first | (simp; done) | (simp; omega) | omega) _) | (refine below_drewN ?_ _) | (refine Below.drew ?_) | (refine Below.trans ?_ (Below.mono hbd1 (by first | (simp; done) | (simp; omega) | omega))) | (refine Below.trans ?_ (Below.mono hbd2 (by first | (simp; done) | (simp; omega) | omega))) | (refine Below.trans ?_ (Below.mono hbd3 (by first | (simp; done) | (simp; omega) | omega))))))
      have hsd3 := hd3.size
      obtain ⟨⟨q3_R1_0, q3_R1_1, q3_R1_2⟩, qf3_R1⟩ := R1.below hd3 (Nat.le_refl _)
      obtain ⟨q3_X1_0, q3_X1_1, q3_X1_2⟩ := X1.below hd3 (Nat.le_refl _)
      go_wp2_with fail
      clear hHeld
      have hHeld : (fun w' : World => w'.cell? ⟨(w.heap.size + 1) , 0, none⟩ = some (.int .i64 0) ∧ w'.cell? ⟨(w.heap.size + 1) , 1, none⟩ = some (.int .i64 0) ∧ w'.cell? ⟨(w.heap.size + 1) , 2, none⟩ = some (.slice none 0 0) ∧ w'.cell? ⟨w.heap.size, 0, none⟩ = some (.int .i64 k) ∧ w'.cell? ⟨w.heap.size, 1, none⟩ = some (.int .i64 m) ∧ w'.cell? ⟨w.heap.size, 2, none⟩ = some (.slice o xs.length c)) wd3 := by go_keep
      refine hK.out _ _ (fun _ => hHeld) ?_
      clear hK K
      try simp only [List.getElem_toArray, List.getElem_cons_zero, List.getElem_cons_succ, Act.put, List.setIfInBounds_toArray, List.set_cons_zero, List.set_cons_succ]
      refine wpAnyS_oneL (i := 7) rfl (by kernel_rfl) (fun K hK => ?_)
      go_simp
      (try go_wp2_with fail)
      refine hK.out _ _ (fun h => absurd h (by decide)) ?_
      clear hK K
      try simp only [List.getElem_toArray, List.getElem_cons_zero, List.getElem_cons_succ, Act.put, List.setIfInBounds_toArray, List.set_cons_zero, List.set_cons_succ]
      refine wpAnyS_oneL (i := 8) rfl (by kernel_rfl) (fun K hK => ?_)
      go_simp
      (try go_wp2_with fail)
      refine hK.out _ _ (fun h => absurd h (by decide)) ?_
      clear hK K
      try simp only [List.getElem_toArray, List.getElem_cons_zero, List.getElem_cons_succ, Act.put, List.setIfInBounds_toArray, List.set_cons_zero, List.set_cons_succ]
      refine wpAnyS_done (by kernel_rfl) ?_ _
      have hOn := R1.below hd3 (Nat.le_refl _)
      go_wp2_with fail
      have hgZ : w1.grownBy (((wd3.setCell ⟨(w.heap.size + 1) , 0, none⟩ (.int .i64 k)).setCell ⟨(w.heap.size + 1) , 1, none⟩ (.int .i64 m)).setCell ⟨(w.heap.size + 1) , 2, none⟩ (.slice oa (xs.length - 1) ca)) (some (w.heap.size + 1) ) := (gr_put (gr_put (gr_put (show w1.grownBy wd3 (some (w.heap.size + 1) ) from World.grownBy.mk hd3.os hd3.tape hd3.output hd3.size (fun k hk _ => hd3.block k hk)) _ _) _ _) _ _)
      have hOZ : RB3 (((wd3.setCell ⟨(w.heap.size + 1) , 0, none⟩ (.int .i64 k)).setCell ⟨(w.heap.size + 1) , 1, none⟩ (.int .i64 m)).setCell ⟨(w.heap.size + 1) , 2, none⟩ (.slice oa (xs.length - 1) ca)) (w.heap.size + 1)  (.int .i64 k) (.int .i64 m) (.slice oa (xs.length - 1) ca) := RB3.put hOn _ _ _
      have hRZ : OwI (((wd3.setCell ⟨(w.heap.size + 1) , 0, none⟩ (.int .i64 k)).setCell ⟨(w.heap.size + 1) , 1, none⟩ (.int .i64 m)).setCell ⟨(w.heap.size + 1) , 2, none⟩ (.slice oa (xs.length - 1) ca)) w1.heap.size (.slice oa (xs.length - 1) ca) (frobL k m xs) := (((hod3.low (by first | (simp; done) | (simp; omega) | omega) _).low (by first | (simp; done) | (simp; omega) | omega) _).low (by first | (simp; done) | (simp; omega) | omega) _).mono (by first | (simp; done) | (simp; omega) | omega)
      obtain ⟨⟨r0, r1, r2⟩, rf⟩ := hOZ
      refine bodyPost_ret (v := .tuple #[.agg #[.int .i64 k, .int .i64 m, .slice oa (xs.length - 1) ca], .int .i64 0]) (by simp [results, Try.results73, go_sem, r0, r1, r2]) rfl ⟨_, rfl, hRZ.mono B1.size, below_gr B1 hgZ (by omega) B1.size, hlen⟩
    · have hR : frobR p m xs = WR.bad 5 := by simp only [frobR, hs, h1]; rfl
      rw [hR]
      clear hR
      go_enter Try.func73, Try.ntmps73
      go_wp2_with fail
      (have X0 := (Box3.mk' w (.int .i64 p) (.int .i64 m) (.slice o xs.length c) 59).below (w' := (w.alloc (.cells #[.int .i64 p, .int .i64 m, .slice o xs.length c] 59)).alloc (.cells #[.int .i64 0, .int .i64 0, .slice none 0 0] 59)) (by (repeat (first | exact Below.refl _ _ | (refine Below.setCell ?_ (by first | (simp; done) | (simp; omega) | omega) _) | (refine Below.alloc ?_ (by first | (simp; done) | (simp; omega) | omega) _) | (refine below_drewN ?_ _) | (refine Below.drew ?_)))) (Nat.le_refl _); have R0 := RB3.mk2 w (.cells #[.int .i64 p, .int .i64 m, .slice o xs.length c] 59) (.int .i64 0) (.int .i64 0) (.slice none 0 0) 59; have B0 : Below w.heap.size w ((w.alloc (.cells #[.int .i64 p, .int .i64 m, .slice o xs.length c] 59)).alloc (.cells #[.int .i64 0, .int .i64 0, .slice none 0 0] 59)) := (by (repeat (first | exact Below.refl _ _ | (refine Below.setCell ?_ (by first | (simp; done) | (simp; omega) | omega) _) | (refine Below.alloc ?_ (by first | (simp; done) | (simp; omega) | omega) _) | (refine below_drewN ?_ _) | (refine Below.drew ?_)))); have hv0 := hv.below (w' := (w.alloc (.cells #[.int .i64 p, .int .i64 m, .slice o xs.length c] 59)).alloc (.cells #[.int .i64 0, .int .i64 0, .slice none 0 0] 59)) (by (repeat (first | exact Below.refl _ _ | (refine Below.setCell ?_ (by first | (simp; done) | (simp; omega) | omega) _) | (refine Below.alloc ?_ (by first | (simp; done) | (simp; omega) | omega) _) | (refine below_drewN ?_ _) | (refine Below.drew ?_)))) (Nat.le_refl _); generalize (w.alloc (.cells #[.int .i64 p, .int .i64 m, .slice o xs.length c] 59)).alloc (.cells #[.int .i64 0, .int .i64 0, .slice none 0 0] 59) = w0 at X0 R0 B0 hv0 ⊢)
      refine (IsWitt_c p m _ xs _ hv0).mono ?_
      rw [hs]
      rintro e w1 ⟨rfl, hb⟩
      (have X1 := X0.below hb (Nat.le_refl _); have R1 := R0.below hb (Nat.le_refl _); have B1 := B0.trans (hb.mono B0.size))
      obtain ⟨k0, k1, k2⟩ := id X1
      obtain ⟨⟨r0, r1, r2⟩, rf⟩ := id R1
      go_wp2
      exact bodyPost_ret (v := .tuple #[.agg #[.int .i64 0, .int .i64 0, .slice none 0 0], .int .i64 5]) (by simp [results, Try.results73, go_sem, r0, r1, r2]) rfl ⟨_, rfl, OwI.nil _ _, (by (repeat (first | exact Below.refl _ _ | (refine Below.setCell ?_ (by first | (simp; done) | (simp; omega) | omega) _) | (refine Below.alloc ?_ (by first | (simp; done) | (simp; omega) | omega) _) | (refine below_drewN ?_ _) | (refine Below.drew ?_) | (refine Below.trans ?_ (Below.mono B1 (by first | (simp; done) | (simp; omega) | omega)))))), by simp [WR.bad]⟩

end Go.Proofs.Ytcjinlfgeljmkaa
