/- Lemmas of Do. -/
import Derived.Test.YtcjinlfgeljmkaaWSWittE
import Derived.Deep.DeepCutAuto
set_option linter.unusedSimpArgs false
set_option linter.unusedVariables false
namespace Go.Proofs.Ytcjinlfgeljmkaa
open Go.RowKit

def opG (p : Nat) (x y : Nat → Int) (t : Bool) (k : Nat) : Int := if t then gh p x k * gh p y k else gh p x k + gh p y k
theorem opG_ex {p : Nat} (hp : P4 p) (x y : Nat → Int) (t : Bool) (n : Nat) : ∃ z, ∀ k, k < n → gh p z k = opG p x y t k := by
  have hx := Gs.gh p (fun i => 2 * i)
  have hy := Gs.gh p (fun i => 2 * i + 1)
  have e1 : ∀ k, gh p (fun i => (fun j => if j % 2 = 0 then x (j / 2) else y (j / 2)) (2 * i)) k = gh p x k := fun k => by
    congr 1; funext i; simp
  have e2 : ∀ k, gh p (fun i => (fun j => if j % 2 = 0 then x (j / 2) else y (j / 2)) (2 * i + 1)) k = gh p y k := fun k => by
    congr 1; funext i
    simp only [show (2 * i + 1) % 2 = 1 by omega, show (2 * i + 1) / 2 = i by omega]
    simp
  cases t
  · obtain ⟨z, hz⟩ := op_ex hp (hx.add hy) n (fun j => if j % 2 = 0 then x (j / 2) else y (j / 2))
    exact ⟨z, fun k hk => by rw [hz k hk, e1, e2]; rfl⟩
  · obtain ⟨z, hz⟩ := op_ex hp (hx.mul hy) n (fun j => if j % 2 = 0 then x (j / 2) else y (j / 2))
    exact ⟨z, fun k hk => by rw [hz k hk, e1, e2]; rfl⟩

def opL (p : Nat) (m : Int) (xs ys : List Int) (t : Bool) : List Int := FL p m xs.length (opG p (at0 xs) (at0 ys) t)
theorem opL_len (p : Nat) (m : Int) (xs ys : List Int) (t : Bool) : (opL p m xs ys t).length = xs.length := FL_len _ _ _ _

theorem op_FL {p : Nat} (hp : P4 p) {m : Int} (hm : 0 < m) {e : Nat} (xs ys : List Int) (t : Bool) (gs : List Int) (hl : gs.length = xs.length) (hn : xs.length ≤ e + 1)
    (hg : ∀ k (hk : k < gs.length), gs[k] % (m * (p : Int) ^ e) = opG p (at0 xs) (at0 ys) t k % (m * (p : Int) ^ e)) :
    (fromL (m * (p : Int) ^ e) p gs).map (· % m) = opL p m xs ys t := by
  have := wide_eq hp hm (e := e) (opG p (at0 xs) (at0 ys) t) gs (by omega) (opG_ex hp _ _ t _) hg
  rw [hl] at this
  exact this

def doL (p : Nat) (W : Int) (xs ys : List Int) (t : Bool) (k : Nat) : List Int := (List.range k).map (fun j => opG p (at0 xs) (at0 ys) t j % W)
theorem doL_len (p : Nat) (W : Int) (xs ys : List Int) (t : Bool) (k : Nat) : (doL p W xs ys t k).length = k := by simp [doL]
theorem doL_succ (p : Nat) (W : Int) (xs ys : List Int) (t : Bool) (k : Nat) : doL p W xs ys t (k + 1) = doL p W xs ys t k ++ [opG p (at0 xs) (at0 ys) t k % W] := by simp [doL, List.range_succ]
theorem doL_FL {p : Nat} (hp : P4 p) {m : Int} (hm : 0 < m) {e : Nat} (xs ys : List Int) (t : Bool) (hn : xs.length ≤ e + 1) :
    (fromL (m * (p : Int) ^ e) p (doL p (m * (p : Int) ^ e) xs ys t xs.length)).map (· % m) = opL p m xs ys t :=
  op_FL hp hm xs ys t _ (doL_len _ _ _ _ _ _) hn (fun k hk => by simp [doL])
theorem doL_range {p : Nat} {W : Int} (hW : 0 < W) {xs ys : List Int} {t : Bool} {k : Nat} : ∀ g ∈ doL p W xs ys t k, 0 ≤ g ∧ g < W := by
  intro g hg
  simp only [doL, List.mem_map] at hg
  obtain ⟨j, _, rfl⟩ := hg
  exact mod_lt' hW

theorem Box3.put {w : World} {b : Nat} {x y z : Value} (h : Box3 w b x y z) {a : Addr} (ha : a.block ≠ b) (u : Value) : Box3 (w.setCell a u) b x y z :=
  ⟨(World.cell?_setCell_other w a ⟨b, 0, none⟩ u (fun e => ha (by first | simp [e] | simp [← e]))).trans h.1,
   (World.cell?_setCell_other w a ⟨b, 1, none⟩ u (fun e => ha (by first | simp [e] | simp [← e]))).trans h.2.1,
   (World.cell?_setCell_other w a ⟨b, 2, none⟩ u (fun e => ha (by first | simp [e] | simp [← e]))).trans h.2.2⟩

set_option maxHeartbeats 1000000 in
set_option maxRecDepth 100000 in
theorem l13Do_c (p : Nat) (m : Int) (v u : Value) (xs ys : List Int) (t : Bool) (w : World) (hp : P4 p) (hv : RdI w v xs) (hu : RdI w u ys) (h1 : 1 ≤ xs.length) (h4 : xs.length ≤ 4) (hl : ys.length = xs.length) (hm : 2 ≤ m) (hm' : m ≤ 10000)
    (hx : ∀ x ∈ xs, 0 ≤ x ∧ x ≤ 9000000000000000000) (hy : ∀ x ∈ ys, 0 ≤ x ∧ x ≤ 9000000000000000000) (q n : Int) :
    Calls Try.prog 175 #[.agg #[.int .i64 p, .int .i64 m, v], .agg #[.int .i64 q, .int .i64 n, u], .bool t] w fun e w' => VEnd w w' p m (opL p m xs ys t) e := by
  have hpb := hp.bounds
  have hpp := hp.pow3 (show xs.length - 1 ≤ 4 by omega)
  have hW := wide_bounds hp hm hm' (show xs.length - 1 ≤ 4 by omega)
  have HFL := Lib.hid (doL_FL hp (show 0 < m by omega) (e := xs.length - 1) xs ys t (by omega))
  obtain ⟨W, hWe⟩ : ∃ W, m * (p : Int) ^ (xs.length - 1) = W := ⟨_, rfl⟩
  rw [hWe] at HFL
  have HW := Lib.hid hWe
  have hW0 : 2 ≤ W := by omega
  have hW1 : W ≤ 30000000 := by omega
  clear hWe
  obtain ⟨o, c, rfl, hmx, -⟩ := id hv
  obtain ⟨o', c', rfl, hmy, -⟩ := id hu
  have HL := Lib.hid hl
  clear hl
  go_enter Try.func175, Try.ntmps175
  go_wp2_with fail
  (have X0 := ((RB3.mk1 w  (.int .i64 p) (.int .i64 m) (.slice o xs.length c) 59).1).below (w' := (((w.alloc (.cells #[.int .i64 p, .int .i64 m, .slice o xs.length c] 59)).alloc (.cells #[.int .i64 q, .int .i64 n, .slice o' ys.length c'] 59)).alloc (.cells #[.int .i64 0, .int .i64 0, .slice none 0 0] 59))) (by (repeat (first | exact Below.refl _ _ | (refine Below.setCell ?_ (by first | (simp; done) | (simp; omega) | omega) _) | (refine Below.alloc ?_ (by first | (simp; done) | (simp; omega) | omega) _) | (refine below_drewN ?_ _) | (refine Below.drew ?_)))) (Nat.le_refl _); have Y0 := ((RB3.mk2 w (.cells #[.int .i64 p, .int .i64 m, .slice o xs.length c] 59) (.int .i64 q) (.int .i64 n) (.slice o' ys.length c') 59).1).below (w' := (((w.alloc (.cells #[.int .i64 p, .int .i64 m, .slice o xs.length c] 59)).alloc (.cells #[.int .i64 q, .int .i64 n, .slice o' ys.length c'] 59)).alloc (.cells #[.int .i64 0, .int .i64 0, .slice none 0 0] 59))) (by (repeat (first | exact Below.refl _ _ | (refine Below.setCell ?_ (by first | (simp; done) | (simp; omega) | omega) _) | (refine Below.alloc ?_ (by first | (simp; done) | (simp; omega) | omega) _) | (refine below_drewN ?_ _) | (refine Below.drew ?_)))) (Nat.le_refl _); have R0 := ((RB3.mk3 w (.cells #[.int .i64 p, .int .i64 m, .slice o xs.length c] 59) (.cells #[.int .i64 q, .int .i64 n, .slice o' ys.length c'] 59) (.int .i64 0) (.int .i64 0) (.slice none 0 0) 59)).below (w' := (((w.alloc (.cells #[.int .i64 p, .int .i64 m, .slice o xs.length c] 59)).alloc (.cells #[.int .i64 q, .int .i64 n, .slice o' ys.length c'] 59)).alloc (.cells #[.int .i64 0, .int .i64 0, .slice none 0 0] 59))) (by (repeat (first | exact Below.refl _ _ | (refine Below.setCell ?_ (by first | (simp; done) | (simp; omega) | omega) _) | (refine Below.alloc ?_ (by first | (simp; done) | (simp; omega) | omega) _) | (refine below_drewN ?_ _) | (refine Below.drew ?_)))) (Nat.le_refl _); have B0 : Below w.heap.size w (((w.alloc (.cells #[.int .i64 p, .int .i64 m, .slice o xs.length c] 59)).alloc (.cells #[.int .i64 q, .int .i64 n, .slice o' ys.length c'] 59)).alloc (.cells #[.int .i64 0, .int .i64 0, .slice none 0 0] 59)) := (by (repeat (first | exact Below.refl _ _ | (refine Below.setCell ?_ (by first | (simp; done) | (simp; omega) | omega) _) | (refine Below.alloc ?_ (by first | (simp; done) | (simp; omega) | omega) _) | (refine below_drewN ?_ _) | (refine Below.drew ?_)))); have hv0 := hv.below (w' := (((w.alloc (.cells #[.int .i64 p, .int .i64 m, .slice o xs.length c] 59)).alloc (.cells #[.int .i64 q, .int .i64 n, .slice o' ys.length c'] 59)).alloc (.cells #[.int .i64 0, .int .i64 0, .slice none 0 0] 59))) (by (repeat (first | exact Below.refl _ _ | (refine Below.setCell ?_ (by first | (simp; done) | (simp; omega) | omega) _) | (refine Below.alloc ?_ (by first | (simp; done) | (simp; omega) | omega) _) | (refine below_drewN ?_ _) | (refine Below.drew ?_)))) (Nat.le_refl _); have hu0 := hu.below (w' := (((w.alloc (.cells #[.int .i64 p, .int .i64 m, .slice o xs.length c] 59)).alloc (.cells #[.int .i64 q, .int .i64 n, .slice o' ys.length c'] 59)).alloc (.cells #[.int .i64 0, .int .i64 0, .slice none 0 0] 59))) (by (repeat (first | exact Below.refl _ _ | (refine Below.setCell ?_ (by first | (simp; done) | (simp; omega) | omega) _) | (refine Below.alloc ?_ (by first | (simp; done) | (simp; omega) | omega) _) | (refine below_drewN ?_ _) | (refine Below.drew ?_)))) (Nat.le_refl _); generalize ((w.alloc (.cells #[.int .i64 p, .int .i64 m, .slice o xs.length c] 59)).alloc (.cells #[.int .i64 q, .int .i64 n, .slice o' ys.length c'] 59)).alloc (.cells #[.int .i64 0, .int .i64 0, .slice none 0 0] 59) = w0 at X0 Y0 R0 B0 hv0 hu0 ⊢)
  obtain ⟨k0, k1, k2⟩ := id X0
  have hxl : (1 : Int) ≤ (xs.length : Int) := by omega
  have e0 : ((xs.length : Int) - 1).toNat = xs.length - 1 := by omega
  have e2 : IntKind.i64.wrap ((xs.length : Int) - 1) = (xs.length : Int) - 1 := IntWalk.i64_in _ (by omega)
  have e1 : IntKind.i64.wrap (m * (p : Int) ^ (xs.length - 1)) = W := by rw [HW.out]; exact IntWalk.i64_in _ (by omega)
  go_wp2_with fail
  clear k0 k1 k2
  go_cut [8, 9] (fun s8 s9 wx => s8 = .int .i64 W ∧ OwI wx (w.heap.size + 3) s9 [] ∧ Box3 wx w.heap.size (.int .i64 p) (.int .i64 m) (.slice o xs.length c) ∧ Box3 wx (w.heap.size + 1) (.int .i64 q) (.int .i64 n) (.slice o' ys.length c') ∧ RB3 wx (w.heap.size + 2) (.int .i64 0) (.int .i64 0) (.slice none 0 0) ∧ Below w.heap.size w wx ∧ RdI wx (.slice o xs.length c) xs ∧ RdI wx (.slice o' ys.length c') ys)
  case first =>
    obtain ⟨k0, k1, k2⟩ := id X0
    have O1 := ((OwI.lit w0 [] (by decide)).mono (show w.heap.size + 3 ≤ w0.heap.size from R0.1.lt)).drewN 1
    have hbw : Below w0.heap.size w0 (w0.alloc (.cells #[] 2)).drew := (by (repeat (first | exact Below.refl _ _ | (refine Below.setCell ?_ (by first | (simp; done) | (simp; omega) | omega) _) | (refine Below.alloc ?_ (by first | (simp; done) | (simp; omega) | omega) _) | (refine below_drewN ?_ _) | (refine Below.drew ?_))))
    have X4 := X0.below hbw (Nat.le_refl _)
    go_region_held3 (fun w' => w'.cell? ⟨w.heap.size, 0, none⟩ = some (.int .i64 p) ∧ w'.cell? ⟨w.heap.size, 1, none⟩ = some (.int .i64 m) ∧ w'.cell? ⟨w.heap.size, 2, none⟩ = some (.slice o xs.length c)) (first | exact X4 | go_keep)
      (first
        | (go_at_call 195; (refine (l13Raise_c _ _ (xs.length - 1) _ (by omega) (by omega) (by omega) (by omega)).mono ?_; rintro e w' ⟨rfl, rfl⟩)))
    all_goals (go_wp2_with fail; go_meet; exact ⟨rfl, O1, X4, Y0.below hbw (Nat.le_refl _), R0.below hbw (Nat.le_refl _), B0.trans (hbw.mono B0.size), hv0.below hbw (Nat.le_refl _), hu0.below hbw (Nat.le_refl _)⟩)
  case rest =>
  obtain ⟨rfl, O1, X1, Y1, R1, B1, hv1, hu1⟩ := hcut
  clear e0 e1 e2
  go_wp2_with fail
  go_loopw [9, 10] (fun s k wr => ∃ i : Nat, i ≤ xs.length ∧ k = .int .i64 i ∧ OwI wr (w.heap.size + 3) s (doL p W xs ys t i) ∧ Box3 wr w.heap.size (.int .i64 p) (.int .i64 m) (.slice o xs.length c) ∧ Box3 wr (w.heap.size + 1) (.int .i64 q) (.int .i64 n) (.slice o' ys.length c') ∧ RB3 wr (w.heap.size + 2) (.int .i64 0) (.int .i64 0) (.slice none 0 0) ∧ Below w.heap.size w wr) (fun _ k _ => xs.length - (intOf k).toNat)
  case atStart => exact ⟨0, Nat.zero_le _, rfl, O1, X1, Y1, R1, B1⟩
  case round =>
    obtain ⟨i, hi, rfl, hO, hX, hY, hR, hB⟩ := hrel
    obtain ⟨ov, cv, rfl⟩ := hO.shapeN (n := i) (doL_len _ _ _ _ _ _)
    obtain ⟨wo, rfl⟩ : ∃ wo : World, wo = wr := ⟨_, rfl⟩
    by_cases hlt : i < xs.length
    · have hvr := hv.below hB (Nat.le_refl _)
      have hur := hu.below hB (Nat.le_refl _)
      have hil : i < ys.length := by rw [HL.out]; exact hlt
      have hG1 := mod_lt' (a := gh p (at0 xs) i) (show 0 < W by omega)
      have hG2 := mod_lt' (a := gh p (at0 ys) i) (show 0 < W by omega)
      have hil' : (i : Int) < (xs.length : Int) := by omega
      obtain ⟨k0, k1, k2⟩ := id hX
      obtain ⟨y0, y1, y2⟩ := id hY
      go_wp2_with fail
      have hvr' : ∀ d, RdI (wo.drewN d) (.slice o xs.length c) xs := fun d => hvr
      have hur' : ∀ d, RdI (wo.drewN d) (.slice o' ys.length c') ys := fun d => hur
      have C1 := fun d => l13Ghost_c p W _ xs _ i _ hp (hvr' d) (by omega) (by omega) rfl (by omega) (by omega) hx
      have C2 := fun d => l13Ghost_c p W _ ys _ i _ hp (hur' d) (by omega) (by omega) rfl (by omega) (by omega) hy
      generalize hg1 : gh p (at0 xs) i % W = G1 at hG1 C1
      generalize hg2 : gh p (at0 ys) i % W = G2 at hG2 C2
      have HG1 := Lib.hid hg1
      have HG2 := Lib.hid hg2
      clear hg1 hg2
      go_quiet ((go_at_call 230; first | with_reducible exact quietC rfl (C1 _) | with_reducible exact quietC rfl (C2 _)))
      clear k0 k1 k2 y0 y1 y2
      have hbw : Below wo.heap.size wo (wo.drewN nq) := below_drewN (Below.refl _ _) _
      have O2 := hO.below hbw
      have X2 := hX.below hbw (Nat.le_refl _)
      have Y2 := hY.below hbw (Nat.le_refl _)
      have R2 := hR.below hbw (Nat.le_refl _)
      have B2 := hB.trans (hbw.mono hB.size)
      generalize wo.drewN nq = w2 at O2 X2 Y2 R2 B2 ⊢
      clear hbw
      have hz := R2.1.lt
      obtain ⟨hP0, hP1⟩ := prod_fits hG1.1 hG2.1 hG1.2 hG2.2 (show W ≤ 3000000000 by omega)
      have e3 : IntKind.i64.wrap (G1 * G2) = G1 * G2 := IntWalk.i64_in _ (by omega)
      have e4 : (G1 * G2).tmod W = (G1 * G2) % W := Int.tmod_eq_emod_of_nonneg (by omega)
      have e5 : (G1 + G2).tmod W = (G1 + G2) % W := Int.tmod_eq_emod_of_nonneg (by omega)
      have hS := Lib.hid (doL_succ p W xs ys t i)
      have hLn : (doL p W xs ys t i).length = i := doL_len _ _ _ _ _ _
      have hWd : (W == 0) = false := by simp; omega
      cases t
      · have hT : opG p (at0 xs) (at0 ys) false i % W = (G1 + G2) % W := by rw [← HG1.out, ← HG2.out]; exact Int.add_emod _ _ _
        have HS : Hid (doL p W xs ys false i ++ [(G1 + G2) % W] = doL p W xs ys false (i + 1)) := Lib.hid (by rw [← hT]; exact hS.out.symm)
        clear hT hS
        go_wp2_with (at_builtin; refine apI w2 rfl _ _ rfl (w.heap.size + 3) (.slice ov i cv) _ rfl O2 _ rfl (by omega) (by omega) ?_; intro v' w4 hO3 hgr hb3 hlt3; clear hgr)
        rw [HS.out] at hO3
        exact ⟨⟨i + 1, by omega, by go_num, hO3, X2.belowB hb3 (by omega), Y2.belowB hb3 (by omega), R2.belowB hb3 (by omega), B2.trans (hb3.mono (by omega))⟩, by simp [intOf]; omega⟩
      · have hT : opG p (at0 xs) (at0 ys) true i % W = (G1 * G2) % W := by rw [← HG1.out, ← HG2.out]; exact Int.mul_emod _ _ _
        have HS : Hid (doL p W xs ys true i ++ [(G1 * G2) % W] = doL p W xs ys true (i + 1)) := Lib.hid (by rw [← hT]; exact hS.out.symm)
        clear hT hS
        go_wp2_with (at_builtin; refine apI w2 rfl _ _ rfl (w.heap.size + 3) (.slice ov i cv) _ rfl O2 _ rfl (by omega) (by omega) ?_; intro v' w4 hO3 hgr hb3 hlt3; clear hgr)
        rw [HS.out] at hO3
        exact ⟨⟨i + 1, by omega, by go_num, hO3, X2.belowB hb3 (by omega), Y2.belowB hb3 (by omega), R2.belowB hb3 (by omega), B2.trans (hb3.mono (by omega))⟩, by simp [intOf]; omega⟩
    · obtain rfl : i = xs.length := by omega
      have hb' : Below wo.heap.size wo wo.drew := (Below.refl _ _).drew
      have X2 := hX.below hb' (Nat.le_refl _)
      have R2 := hR.below hb' (Nat.le_refl _)
      have O2 := hO.below hb'
      have B2 := hB.trans (hb'.mono hB.size)
      clear hb'
      have hz := R2.1.lt
      have Hdl : Hid ((doL p W xs ys t xs.length).length = xs.length) := Lib.hid (doL_len _ _ _ _ _ _)
      have hdr := doL_range (p := p) (W := W) (xs := xs) (ys := ys) (t := t) (k := xs.length) (by omega)
      have hcW : m * (p : Int) ^ ((doL p W xs ys t xs.length).length - 1) = W := by rw [Hdl.out]; exact HW.out
      have HcW := Lib.hid hcW
      clear hcW
      have Hop : Hid ((opL p m xs ys t).length = xs.length) := Lib.hid (opL_len _ _ _ _ _)
      obtain ⟨k0, k1, k2⟩ := id X2
      go_wp2_with fail
      go_region_held3 (fun w' => w'.cell? ⟨w.heap.size, 0, none⟩ = some (.int .i64 p) ∧ w'.cell? ⟨w.heap.size, 1, none⟩ = some (.int .i64 m) ∧ w'.cell? ⟨w.heap.size, 2, none⟩ = some (.slice o xs.length c)) (first | exact X6 | exact X5 | exact ((X6.put (Nat.ne_of_gt (Nat.lt_add_of_pos_right (Nat.zero_lt_succ 1))) _).put (Nat.ne_of_gt (Nat.lt_add_of_pos_right (Nat.zero_lt_succ 1))) _).put (Nat.ne_of_gt (Nat.lt_add_of_pos_right (Nat.zero_lt_succ 1))) _ | go_keep)
        (first
          | (go_at_call 231; (refine (l13From_c p m W _ _ _ hp O2.rd (by rw [Hdl.out]; omega) (by rw [Hdl.out]; omega) hm hm' HcW.out hdr).mono ?_; rw [HFL.out]; rintro e w5 ⟨v5, rfl, hO5, hb5⟩; obtain ⟨o5, c5, rfl⟩ := hO5.shapeN (n := xs.length) Hop.out; have X5 := X2.below hb5 (Nat.le_refl _); have R5 := R2.below hb5 (Nat.le_refl _); have B5 := B2.trans (hb5.mono B2.size)))
          | (go_at_call 182; (refine (l13With_c p m _ _ _ _ _ _ _).mono ?_; rintro e w6 ⟨rfl, hb6⟩; have X6 := X5.below hb6 (Nat.le_refl _); have R6 := R5.below hb6 (Nat.le_refl _); have hO6 := hO5.below hb6; have B6 := B5.trans (hb6.mono B5.size); obtain ⟨⟨r0, r1, r2⟩, rf⟩ := id R6)))
      go_wp2
      have hz5 : w.heap.size + 2 < wo.drew.heap.size := hz
      refine bodyPost_ret (v := .agg #[.int .i64 p, .int .i64 m, .slice o5 xs.length c5]) (by simp [results, Try.results175, go_sem, r0, r1, r2]) rfl ⟨_, rfl, ?_, ?_⟩
      · exact ((((hO6.low hz5 _).low hz5 _).low hz5 _)).mono (by have := B2.size; omega)
      · (repeat (first | exact Below.refl _ _ | (refine Below.setCell ?_ (by first | (simp; done) | (simp; omega) | omega) _) | (refine Below.alloc ?_ (by first | (simp; done) | (simp; omega) | omega) _) | (refine below_drewN ?_ _) | (refine Below.drew ?_) | (refine Below.trans ?_ (Below.mono B6 (by first | (simp; done) | (simp; omega) | omega)))))

end Go.Proofs.Ytcjinlfgeljmkaa
