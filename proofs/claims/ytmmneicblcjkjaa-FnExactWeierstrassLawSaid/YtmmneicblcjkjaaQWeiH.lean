/- Lemmas of WeiH. -/
import Derived.Test.YtmmneicblcjkjaaQWeiG
set_option linter.unusedSimpArgs false
set_option linter.unusedVariables false
namespace Go.Proofs.Ytmmneicblcjkjaa
open Go.RowKit

theorem onAxis0_w (m : Int) (n : Nat) (v : Value) (xs : List Int) (w : World) (hv : RdI w v xs) (hx : LisN m n xs) (h1 : 1 ≤ n) (hn : n ≤ 1000) (hm : 0 < m) :
    Calls Try.prog 36 #[.agg #[.int .i64 m, v], .int .i64 0] w fun e w' => PVEnd w w' m (clnT m n xs) e := by
  rw [← axT_cln hm hx]
  exact onAxis0_c m n v xs w hv hx.1 h1 hn

set_option maxHeartbeats 8000000 in
set_option maxRecDepth 100000 in
theorem weierstrassLaw_c (m d : Int) (n : Nat) (v : Value) (ls : List Int) (w : World) (hd : d + 1 = (n : Int)) (hv : RdI w v ls) (hl : ls.length = 5) (h2 : 2 ≤ n) (hn : n ≤ 900) (hm : 2 ≤ m) (hm' : m ≤ 10000) (hx : ∀ x ∈ ls, 0 ≤ x ∧ x < m) :
    Calls Try.prog 16 #[.int .i64 m, .int .i64 d, v] w fun e w' => PVEnd w w' m (wtLaw m n (at0 ls) (weiI m (n + 1) (at0 ls) n)) e := by
  obtain ⟨o, c, rfl, hmx, -⟩ := id hv
  obtain ⟨bl, fl, rfl, -⟩ := hv.cells (by omega)
  have r0 := at0_range (show 0 < m by omega) hx 0
  have r1 := at0_range (show 0 < m by omega) hx 1
  have r2 := at0_range (show 0 < m by omega) hx 2
  have r3 := at0_range (show 0 < m by omega) hx 3
  have r4 := at0_range (show 0 < m by omega) hx 4
  have HL := Lib.hid hl
  have HX := Lib.hid hx
  rw [hl] at hv ⊢
  clear hl hmx hx
  have hd1 : d = (n : Int) - 1 := by omega
  subst hd1
  clear hd
  have e0 : ((n : Int) - 1) + 1 = (n : Int) := by omega
  have e00 : IntKind.i64.wrap (n : Int) = (n : Int) := IntWalk.i64_in _ (by omega)
  go_enter Try.func16, Try.ntmps16
  go_wp2_with fail
  (have R0 := ((RB2.mk1 w  (.int .i64 0) (.slice none 0 0) 25)).below (w' := (w.alloc (.cells #[.int .i64 0, .slice none 0 0] 25))) (by (repeat (first | exact Below.refl _ _ | (refine Below.setCell ?_ (by first | (simp; done) | (simp; omega) | omega) _) | (refine Below.alloc ?_ (by first | (simp; done) | (simp; omega) | omega) _) | (refine below_drewN ?_ _) | (refine Below.drew ?_)))) (Nat.le_refl _); have B0 : Below w.heap.size w (w.alloc (.cells #[.int .i64 0, .slice none 0 0] 25)) := (by (repeat (first | exact Below.refl _ _ | (refine Below.setCell ?_ (by first | (simp; done) | (simp; omega) | omega) _) | (refine Below.alloc ?_ (by first | (simp; done) | (simp; omega) | omega) _) | (refine below_drewN ?_ _) | (refine Below.drew ?_)))); have hv0 := hv.below (w' := (w.alloc (.cells #[.int .i64 0, .slice none 0 0] 25))) (by (repeat (first | exact Below.refl _ _ | (refine Below.setCell ?_ (by first | (simp; done) | (simp; omega) | omega) _) | (refine Below.alloc ?_ (by first | (simp; done) | (simp; omega) | omega) _) | (refine below_drewN ?_ _) | (refine Below.drew ?_)))) (Nat.le_refl _); generalize w.alloc (.cells #[.int .i64 0, .slice none 0 0] 25) = w0 at R0 B0 hv0 ⊢)
  refine (weierstrass_c m _ (n + 1) _ ls _ (by omega) hv0 HL.out (by omega) (by omega) hm hm' HX.out).mono ?_
  rintro e w1 ⟨v1, rfl, h1, hb⟩
  obtain ⟨W, hW⟩ : ∃ W, W = weiI m (n + 1) (at0 ls) n := ⟨_, rfl⟩
  have HW : LisN m (n + 1) W := by rw [hW]; exact ⟨weiI_len _ _ _ _, weiI_range (by omega) _ _ _⟩
  rw [Nat.add_sub_cancel, ← hW] at h1
  have HWd := Lib.hid hW
  clear hW
  obtain ⟨oW, cW, rfl⟩ := h1.shapeN (n := n + 1) HW.1
  obtain ⟨gW, rfl, -, -⟩ := h1.row (by omega)
  (have R1 := R0.below hb (Nat.le_refl _); have hv1 := hv0.below hb (Nat.le_refl _); have B1 := B0.trans (hb.mono B0.size); clear R0 hv0 B0)
  have W1 := h1.rd
  have R1lt := R1.1.lt
  clear h1 hb
  have hcap : (n : Int) ≤ (cW : Int) := by
    obtain ⟨o', c', he, hq, -⟩ := W1
    obtain ⟨-, -, rfl⟩ : some (⟨gW, 0, none⟩ : Addr) = o' ∧ n + 1 = W.length ∧ cW = c' := by simpa using he
    have := HW.1
    omega
  have hn0 : (0 : Int) ≤ (n : Int) := by omega
  go_wp2_with fail
  (have WB2 := (RB2.mk1 w1  (.int .i64 m) (.slice (some ⟨gW, 0, none⟩) (n + 1) cW) 51).below (w' := ((w1.alloc (.cells #[.int .i64 m, .slice (some ⟨gW, 0, none⟩) (n + 1) cW] 51)).alloc (.cells #[.int .i64 m, .slice (some ⟨gW, 0, none⟩) n cW] 51))) (by (repeat (first | exact Below.refl _ _ | (refine Below.setCell ?_ (by first | (simp; done) | (simp; omega) | omega) _) | (refine Below.alloc ?_ (by first | (simp; done) | (simp; omega) | omega) _) | (refine below_drewN ?_ _) | (refine Below.drew ?_)))) (Nat.le_refl _); have CB2 := (RB2.mk2 w1 (.cells #[.int .i64 m, .slice (some ⟨gW, 0, none⟩) (n + 1) cW] 51) (.int .i64 m) (.slice (some ⟨gW, 0, none⟩) n cW) 51).below (w' := ((w1.alloc (.cells #[.int .i64 m, .slice (some ⟨gW, 0, none⟩) (n + 1) cW] 51)).alloc (.cells #[.int .i64 m, .slice (some ⟨gW, 0, none⟩) n cW] 51))) (by (repeat (first | exact Below.refl _ _ | (refine Below.setCell ?_ (by first | (simp; done) | (simp; omega) | omega) _) | (refine Below.alloc ?_ (by first | (simp; done) | (simp; omega) | omega) _) | (refine below_drewN ?_ _) | (refine Below.drew ?_)))) (Nat.le_refl _); have hb : Below w1.heap.size w1 ((w1.alloc (.cells #[.int .i64 m, .slice (some ⟨gW, 0, none⟩) (n + 1) cW] 51)).alloc (.cells #[.int .i64 m, .slice (some ⟨gW, 0, none⟩) n cW] 51)) := (by (repeat (first | exact Below.refl _ _ | (refine Below.setCell ?_ (by first | (simp; done) | (simp; omega) | omega) _) | (refine Below.alloc ?_ (by first | (simp; done) | (simp; omega) | omega) _) | (refine below_drewN ?_ _) | (refine Below.drew ?_)))); have R2 := R1.below hb (Nat.le_refl _); have hv2 := hv1.below hb (Nat.le_refl _); have W2 := W1.below hb (Nat.le_refl _); have B2 := B1.trans (hb.mono B1.size); have hl_w2 := hb.size; clear hb R1 hv1 W1 B1; generalize (w1.alloc (.cells #[.int .i64 m, .slice (some ⟨gW, 0, none⟩) (n + 1) cW] 51)).alloc (.cells #[.int .i64 m, .slice (some ⟨gW, 0, none⟩) n cW] 51) = w2 at hl_w2 B2 WB2 CB2 R2 hv2 W2 ⊢)
  have lW := WB2.1.lt
  have lC := CB2.1.lt
  refine (variables_c m _ n _ e0 h2 (by omega) hm hm').mono ?_
  rintro e w3 ⟨vx, vy, rfl, X3, Y3, hb⟩
  obtain ⟨ox, cx, rfl⟩ : ∃ o c, vx = .slice o n c := by
    obtain ⟨o', c', rfl, -⟩ := id X3
    exact ⟨o', c', by rw [show (xT n).length = n from tri_len _ _]⟩
  obtain ⟨oy, cy, rfl⟩ : ∃ o c, vy = .slice o n c := by
    obtain ⟨o', c', rfl, -⟩ := id Y3
    exact ⟨o', c', by rw [show (yT n).length = n from tri_len _ _]⟩
  (have R3 := R2.below hb (Nat.le_refl _); have hv3 := hv2.below hb (Nat.le_refl _); have W3 := W2.below hb (Nat.le_refl _); have WB3 := WB2.below hb (Nat.le_refl _); have CB3 := CB2.below hb (Nat.le_refl _); have B3 := B2.trans (hb.mono B2.size); clear R2 hv2 W2 WB2 CB2 B2)
  clear hb
  go_wp2_with fail
  (have XB4 := (RB2.mk1 w3  (.int .i64 m) (.slice ox n cx) 25).below (w' := ((w3.alloc (.cells #[.int .i64 m, .slice ox n cx] 25)).alloc (.cells #[.int .i64 m, .slice oy n cy] 25))) (by (repeat (first | exact Below.refl _ _ | (refine Below.setCell ?_ (by first | (simp; done) | (simp; omega) | omega) _) | (refine Below.alloc ?_ (by first | (simp; done) | (simp; omega) | omega) _) | (refine below_drewN ?_ _) | (refine Below.drew ?_)))) (Nat.le_refl _); have YB4 := (RB2.mk2 w3 (.cells #[.int .i64 m, .slice ox n cx] 25) (.int .i64 m) (.slice oy n cy) 25).below (w' := ((w3.alloc (.cells #[.int .i64 m, .slice ox n cx] 25)).alloc (.cells #[.int .i64 m, .slice oy n cy] 25))) (by (repeat (first | exact Below.refl _ _ | (refine Below.setCell ?_ (by first | (simp; done) | (simp; omega) | omega) _) | (refine Below.alloc ?_ (by first | (simp; done) | (simp; omega) | omega) _) | (refine below_drewN ?_ _) | (refine Below.drew ?_)))) (Nat.le_refl _); have hb : Below w3.heap.size w3 ((w3.alloc (.cells #[.int .i64 m, .slice ox n cx] 25)).alloc (.cells #[.int .i64 m, .slice oy n cy] 25)) := (by (repeat (first | exact Below.refl _ _ | (refine Below.setCell ?_ (by first | (simp; done) | (simp; omega) | omega) _) | (refine Below.alloc ?_ (by first | (simp; done) | (simp; omega) | omega) _) | (refine below_drewN ?_ _) | (refine Below.drew ?_)))); have R4 := R3.below hb (Nat.le_refl _); have hv4 := hv3.below hb (Nat.le_refl _); have W4 := W3.below hb (Nat.le_refl _); have WB4 := WB3.below hb (Nat.le_refl _); have CB4 := CB3.below hb (Nat.le_refl _); have X4 := X3.below hb (Nat.le_refl _); have Y4 := Y3.below hb (Nat.le_refl _); have B4 := B3.trans (hb.mono B3.size); have hl_w4 := hb.size; clear hb R3 hv3 W3 WB3 CB3 X3 Y3 B3; generalize (w3.alloc (.cells #[.int .i64 m, .slice ox n cx] 25)).alloc (.cells #[.int .i64 m, .slice oy n cy] 25) = w4 at hl_w4 B4 XB4 YB4 R4 hv4 W4 WB4 CB4 X4 Y4 ⊢)
  refine (emptyPlane_c m _ n _ rfl (by omega)).mono ?_
  rintro e w9 ⟨v9, rfl, h9, hb⟩
  obtain ⟨o9, c9, rfl⟩ := h9.shapeN (n := n) (zeroT_len _)
  clear h9
  have B5 := B4.trans (hb.mono B4.size)
  have R5 := R4.below hb (Nat.le_refl _)
  have hv5 := hv4.below hb (Nat.le_refl _)
  have W5 := W4.below hb (Nat.le_refl _)
  have WB5 := WB4.below hb (Nat.le_refl _)
  have CB5 := CB4.below hb (Nat.le_refl _)
  have X5 := X4.below hb (Nat.le_refl _)
  have Y5 := Y4.below hb (Nat.le_refl _)
  have XB5 := XB4.below hb (Nat.le_refl _)
  have YB5 := YB4.below hb (Nat.le_refl _)
  clear hb B4 R4 hv4 W4 WB4 CB4 X4 Y4 XB4 YB4
  go_wp2_with fail
  refine (mapped1_c 35 _ (fun i j => at0 W (i + j + 1)) m o9 n c9 _ (by omega) (by omega) (by omega) (by omega) wclos_callable (fun i j h => by have := at0_range (show 0 < m by omega) HW.2 (i + j + 1); omega)
    (fun i j w1' h hb => wclos_c i j _ m _ W w1' (WB5.1.below hb (Nat.le_refl _)) (W5.below hb (Nat.le_refl _)) (by rw [HW.1]; omega))).mono ?_
  rintro e w6 ⟨v6, rfl, h6, hb⟩
  rw [show tri n (fun i j => at0 W (i + j + 1) % m) = linT m n W from rfl] at h6
  obtain ⟨oL, cL, rfl⟩ := h6.shapeN (n := n) (tri_len _ _)
  have CW5 := W5.take n (by rw [HW.1]; omega)
  (have R6 := R5.below hb (Nat.le_refl _); have hv6 := hv5.below hb (Nat.le_refl _); have CW6 := CW5.below hb (Nat.le_refl _); have X6 := X5.below hb (Nat.le_refl _); have Y6 := Y5.below hb (Nat.le_refl _); have CB6 := CB5.below hb (Nat.le_refl _); have XB6 := XB5.below hb (Nat.le_refl _); have YB6 := YB5.below hb (Nat.le_refl _); have B6 := B5.trans (hb.mono B5.size); clear R5 hv5 CW5 X5 Y5 CB5 XB5 YB5 B5)
  have L6 := h6.rd
  clear h6 hb W5 WB5
  obtain ⟨cw, hcw_⟩ : ∃ cw, cw = W.take n := ⟨_, rfl⟩
  have HCW : LisN m n cw := by rw [hcw_]; exact ⟨by rw [List.length_take, HW.1]; omega, fun x hx => HW.2 x (List.mem_of_mem_take hx)⟩
  rw [← hcw_] at CW6
  have HCWd := Lib.hid hcw_
  clear hcw_
  obtain ⟨L, hL_⟩ : ∃ L, L = linT m n W := ⟨_, rfl⟩
  have HLi : PlaT m n L := by rw [hL_]; exact PlaT.lin (by omega) n W
  rw [← hL_] at L6
  have HLd := Lib.hid hL_
  clear hL_
  obtain ⟨X, hX_⟩ : ∃ X, X = xT n := ⟨_, rfl⟩
  have HXi : PlaT m n X := by rw [hX_]; exact PlaT.xT hm n
  rw [← hX_] at X6
  have HXd := Lib.hid hX_
  clear hX_
  obtain ⟨Y, hY_⟩ : ∃ Y, Y = yT n := ⟨_, rfl⟩
  have HYi : PlaT m n Y := by rw [hY_]; exact PlaT.yT hm n
  rw [← hY_] at Y6
  have HYd := Lib.hid hY_
  clear hY_
  go_wp2_with fail
  (have LB7 := (RB2.mk1 w6  (.int .i64 m) (.slice oL n cL) 25).below (w' := (w6.alloc (.cells #[.int .i64 m, .slice oL n cL] 25))) (by (repeat (first | exact Below.refl _ _ | (refine Below.setCell ?_ (by first | (simp; done) | (simp; omega) | omega) _) | (refine Below.alloc ?_ (by first | (simp; done) | (simp; omega) | omega) _) | (refine below_drewN ?_ _) | (refine Below.drew ?_)))) (Nat.le_refl _); have hb : Below w6.heap.size w6 (w6.alloc (.cells #[.int .i64 m, .slice oL n cL] 25)) := (by (repeat (first | exact Below.refl _ _ | (refine Below.setCell ?_ (by first | (simp; done) | (simp; omega) | omega) _) | (refine Below.alloc ?_ (by first | (simp; done) | (simp; omega) | omega) _) | (refine below_drewN ?_ _) | (refine Below.drew ?_)))); have R7 := R6.below hb (Nat.le_refl _); have hv7 := hv6.below hb (Nat.le_refl _); have CW7 := CW6.below hb (Nat.le_refl _); have X7 := X6.below hb (Nat.le_refl _); have Y7 := Y6.below hb (Nat.le_refl _); have CB7 := CB6.below hb (Nat.le_refl _); have XB7 := XB6.below hb (Nat.le_refl _); have YB7 := YB6.below hb (Nat.le_refl _); have L7 := L6.below hb (Nat.le_refl _); have B7 := B6.trans (hb.mono B6.size); have hl_w7 := hb.size; clear hb R6 hv6 CW6 X6 Y6 CB6 XB6 YB6 L6 B6; generalize w6.alloc (.cells #[.int .i64 m, .slice oL n cL] 25) = w7 at hl_w7 B7 LB7 R7 hv7 CW7 X7 Y7 CB7 XB7 YB7 L7 ⊢)
  have lL := LB7.1.lt
  have lX := XB7.1.lt
  have lY := YB7.1.lt
  have lC7 := CB7.1.lt
  go_cut [12] from 41 to 46 (fun s u => ∃ (b : Nat) (o : Option Addr) (c : Nat), s = .pointer (some ⟨b, 0, none⟩) ∧ RB2 u b (.int .i64 m) (.slice o n c) ∧ RdT u (.slice o n c) (subT m n (clnT m n cw) (timesT m n L X)) ∧ Below w7.heap.size w7 u)
  case first =>
    as_aux_lemma =>
    have hd : Below w7.heap.size w7 w7.drew := (Below.refl _ _).drew
    have hsd := hd.size
    obtain ⟨qz_CB71_0, qz_CB71_1⟩ := CB7.1.below hd (Nat.le_refl _)
    obtain ⟨qz_LB71_0, qz_LB71_1⟩ := LB7.1.below hd (Nat.le_refl _)
    obtain ⟨qz_XB71_0, qz_XB71_1⟩ := XB7.1.below hd (Nat.le_refl _)
    refine wp_region_K (S := fun w' => w'.cell? ⟨w1.heap.size + 1, 0, none⟩ = some (.int .i64 m) ∧ w'.cell? ⟨w1.heap.size + 1, 1, none⟩ = some (.slice (some ⟨gW, 0, none⟩) n cW) ∧ w'.cell? ⟨w6.heap.size, 0, none⟩ = some (.int .i64 m) ∧ w'.cell? ⟨w6.heap.size, 1, none⟩ = some (.slice oL n cL) ∧ w'.cell? ⟨w3.heap.size, 0, none⟩ = some (.int .i64 m) ∧ w'.cell? ⟨w3.heap.size, 1, none⟩ = some (.slice ox n cx)) [7] (by as_aux_lemma => kernel_rfl) ?_
    have hHeld : (fun w' : World => w'.cell? ⟨w1.heap.size + 1, 0, none⟩ = some (.int .i64 m) ∧ w'.cell? ⟨w1.heap.size + 1, 1, none⟩ = some (.slice (some ⟨gW, 0, none⟩) n cW) ∧ w'.cell? ⟨w6.heap.size, 0, none⟩ = some (.int .i64 m) ∧ w'.cell? ⟨w6.heap.size, 1, none⟩ = some (.slice oL n cL) ∧ w'.cell? ⟨w3.heap.size, 0, none⟩ = some (.int .i64 m) ∧ w'.cell? ⟨w3.heap.size, 1, none⟩ = some (.slice ox n cx)) w7.drew := by go_keep
    refine' wpAnyK_takeL (i := 0) (v := _) rfl (by as_aux_lemma => kernel_rfl) (by as_aux_lemma => kernel_rfl) (by as_aux_lemma => kernel_rfl) (by as_aux_lemma => kernel_rfl) (fun _ _ _ h => h) (Or.inl ⟨by rfl, ?yT1⟩) hHeld ?rT1
    case yT1 => (intro w' hSw; (try dsimp only at hSw); go_simp; try with_reducible rfl)
    try simp only [List.getElem_toArray, List.getElem_cons_zero, List.getElem_cons_succ, Act.put, List.setIfInBounds_toArray, List.set_cons_zero, List.set_cons_succ]
    refine' wpAnyK_takeL (i := 2) (v := _) rfl (by as_aux_lemma => kernel_rfl) (by as_aux_lemma => kernel_rfl) (by as_aux_lemma => kernel_rfl) (by as_aux_lemma => kernel_rfl) (fun _ _ _ h => h) (Or.inl ⟨by rfl, ?yT2⟩) hHeld ?rT2
    case yT2 => (intro w' hSw; (try dsimp only at hSw); go_simp; try with_reducible rfl)
    try simp only [List.getElem_toArray, List.getElem_cons_zero, List.getElem_cons_succ, Act.put, List.setIfInBounds_toArray, List.set_cons_zero, List.set_cons_succ]
    refine' wpAnyK_takeL (i := 3) (v := _) rfl (by as_aux_lemma => kernel_rfl) (by as_aux_lemma => kernel_rfl) (by as_aux_lemma => kernel_rfl) (by as_aux_lemma => kernel_rfl) (fun _ _ _ h => h) (Or.inl ⟨by rfl, ?yT3⟩) hHeld ?rT3
    case yT3 => (intro w' hSw; (try dsimp only at hSw); go_simp; try with_reducible rfl)
    try simp only [List.getElem_toArray, List.getElem_cons_zero, List.getElem_cons_succ, Act.put, List.setIfInBounds_toArray, List.set_cons_zero, List.set_cons_succ]
    clear hHeld
    refine wpFl_start (f := 6) (slot := 12) (Bx := FlB (w7.heap.size)) (x0 := undef) (by rfl) ?_
    try simp only [List.getElem_toArray, List.getElem_cons_zero, List.getElem_cons_succ, Act.put, List.setIfInBounds_toArray, List.set_cons_zero, List.set_cons_succ]
    refine wpFl_step (f := 6) (slot := 12) (c := 1) (Z := (.cells #[.int .i64 0, .slice none 0 0] 25)) (F := fun u => Below (w7.heap.size) w7 u) (Bx := FlB (w7.heap.size)) rfl rfl (by decide) (by as_aux_lemma => kernel_rfl) (by as_aux_lemma => kernel_rfl) ?al4 ?bx4 ?hs4 ?f4 ?st4 ?step4
    case al4 => as_aux_lemma => (intro u K h; (try dsimp only at h ⊢); go_simp; exact h)
    case bx4 => as_aux_lemma => (rintro u hd; exact FlB.new hd.size)
    case hs4 => as_aux_lemma =>
      rintro u hd
      obtain ⟨qs_CB71_0, qs_CB71_1⟩ := CB7.1.below hd (Nat.le_refl _)
      obtain ⟨qs_LB71_0, qs_LB71_1⟩ := LB7.1.below hd (Nat.le_refl _)
      obtain ⟨qs_XB71_0, qs_XB71_1⟩ := XB7.1.below hd (Nat.le_refl _)
      go_keep
    case f4 => exact hd
    case st4 => as_aux_lemma => (rintro u hd; have hb : Below u.heap.size u (u.alloc (.cells #[.int .i64 0, .slice none 0 0] 25)) := (Below.refl _ _).alloc (Nat.le_refl _) _; exact hd.trans (hb.mono hd.size))
    case step4 =>
    clear hsd
    intro u0 x0 hd K hK
    have hsd := hd.size
    obtain ⟨q0_CB71_0, q0_CB71_1⟩ := CB7.1.below hd (Nat.le_refl _)
    obtain ⟨q0_LB71_0, q0_LB71_1⟩ := LB7.1.below hd (Nat.le_refl _)
    obtain ⟨q0_XB71_0, q0_XB71_1⟩ := XB7.1.below hd (Nat.le_refl _)
    (try dsimp only)
    go_simp
    go_at_call 36
    refine (onAxis0_w m n _ cw _ ((CW7).below hd (Nat.le_refl _)) HCW (by omega) (by omega) (by omega)).mono ?_
    rintro e v0 ⟨_, rfl, hA, hbA⟩
    obtain ⟨oA, cA, rfl⟩ := hA.shapeN (n := n) (tri_len _ _)
    go_wp2_with fail
    have hsd0 := hbA.size
    have hA := hA.mono (B' := w7.heap.size) hd.size
    have hd := hd.trans (hbA.mono hd.size)
    obtain ⟨q0n_CB71_0, q0n_CB71_1⟩ := CB7.1.below hd (Nat.le_refl _)
    obtain ⟨q0n_LB71_0, q0n_LB71_1⟩ := LB7.1.below hd (Nat.le_refl _)
    obtain ⟨q0n_XB71_0, q0n_XB71_1⟩ := XB7.1.below hd (Nat.le_refl _)
    have hHeld : (fun w' : World => w'.cell? ⟨w1.heap.size + 1, 0, none⟩ = some (.int .i64 m) ∧ w'.cell? ⟨w1.heap.size + 1, 1, none⟩ = some (.slice (some ⟨gW, 0, none⟩) n cW) ∧ w'.cell? ⟨w6.heap.size, 0, none⟩ = some (.int .i64 m) ∧ w'.cell? ⟨w6.heap.size, 1, none⟩ = some (.slice oL n cL) ∧ w'.cell? ⟨w3.heap.size, 0, none⟩ = some (.int .i64 m) ∧ w'.cell? ⟨w3.heap.size, 1, none⟩ = some (.slice ox n cx)) v0 := by go_keep
    refine hK.out _ _ (FlB (w7.heap.size)) (by rfl) (fun b hb => hb.below hbA (Nat.le_refl _)) (fun _ => hHeld) ?_
    clear hK K hHeld
    try simp only [List.getElem_toArray, List.getElem_cons_zero, List.getElem_cons_succ, Act.put, List.setIfInBounds_toArray, List.set_cons_zero, List.set_cons_succ]
    refine wpFl_step (f := 6) (slot := 12) (c := 4) (Z := (.cells #[.int .i64 0, .slice none 0 0] 25)) (F := fun u => Below (w7.heap.size) w7 u ∧ OwS u (w7.heap.size) (.slice oA n cA) (clnT m n cw)) (Bx := FlB (w7.heap.size)) rfl rfl (by decide) (by as_aux_lemma => kernel_rfl) (by as_aux_lemma => kernel_rfl) ?al5 ?bx5 ?hs5 ?f5 ?st5 ?step5
    case al5 => as_aux_lemma => (intro u K h; (try dsimp only at h ⊢); go_simp; exact h)
    case bx5 => as_aux_lemma => (rintro u ⟨hd, hA⟩; exact FlB.new hd.size)
    case hs5 => as_aux_lemma =>
      rintro u ⟨hd, hA⟩
      obtain ⟨qs_CB71_0, qs_CB71_1⟩ := CB7.1.below hd (Nat.le_refl _)
      obtain ⟨qs_LB71_0, qs_LB71_1⟩ := LB7.1.below hd (Nat.le_refl _)
      obtain ⟨qs_XB71_0, qs_XB71_1⟩ := XB7.1.below hd (Nat.le_refl _)
      go_keep
    case f5 => exact ⟨hd, hA⟩
    case st5 => as_aux_lemma => (rintro u ⟨hd, hA⟩; have hb : Below u.heap.size u (u.alloc (.cells #[.int .i64 0, .slice none 0 0] 25)) := (Below.refl _ _).alloc (Nat.le_refl _) _; exact ⟨hd.trans (hb.mono hd.size), hA.alloc _⟩)
    case step5 =>
    clear hsd
    rintro u1 x1 ⟨hd, hA⟩ K hK
    have hsd := hd.size
    obtain ⟨q1_CB71_0, q1_CB71_1⟩ := CB7.1.below hd (Nat.le_refl _)
    obtain ⟨q1_LB71_0, q1_LB71_1⟩ := LB7.1.below hd (Nat.le_refl _)
    obtain ⟨q1_XB71_0, q1_XB71_1⟩ := XB7.1.below hd (Nat.le_refl _)
    (try dsimp only)
    go_simp
    go_at_call 38
    refine (timesP_c m m n _ _ L X _ ((L7).below hd (Nat.le_refl _)) ((X7).below hd (Nat.le_refl _)) (by omega) (by omega) hm (by omega) (by first | assumption | exact timesT_ok (by omega) _ _ _ | exact addT_ok (by omega) _ _ _ | exact PlaT.sub (by omega) _ _ _ | exact PlaT.sca (by omega) _ _ _ | exact PlaT.one (by omega) _ | exact PlaT.inv (by omega) _ _ | exact hornT_ok (by omega) _ _ _ | exact PlaT.cln (by omega) _ _) (by first | assumption | exact timesT_ok (by omega) _ _ _ | exact addT_ok (by omega) _ _ _ | exact PlaT.sub (by omega) _ _ _ | exact PlaT.sca (by omega) _ _ _ | exact PlaT.one (by omega) _ | exact PlaT.inv (by omega) _ _ | exact hornT_ok (by omega) _ _ _ | exact PlaT.cln (by omega) _ _)).mono ?_
    rintro e v1 ⟨_, rfl, hB, hbB⟩
    obtain ⟨oB, cB, rfl⟩ := hB.shapeN (n := n) (tri_len _ _)
    go_wp2_with fail
    have hsd1 := hbB.size
    have hA := hA.below hbB
    have hB := hB.mono (B' := w7.heap.size) hd.size
    have hd := hd.trans (hbB.mono hd.size)
    obtain ⟨q1n_CB71_0, q1n_CB71_1⟩ := CB7.1.below hd (Nat.le_refl _)
    obtain ⟨q1n_LB71_0, q1n_LB71_1⟩ := LB7.1.below hd (Nat.le_refl _)
    obtain ⟨q1n_XB71_0, q1n_XB71_1⟩ := XB7.1.below hd (Nat.le_refl _)
    have hHeld : (fun w' : World => w'.cell? ⟨w1.heap.size + 1, 0, none⟩ = some (.int .i64 m) ∧ w'.cell? ⟨w1.heap.size + 1, 1, none⟩ = some (.slice (some ⟨gW, 0, none⟩) n cW) ∧ w'.cell? ⟨w6.heap.size, 0, none⟩ = some (.int .i64 m) ∧ w'.cell? ⟨w6.heap.size, 1, none⟩ = some (.slice oL n cL) ∧ w'.cell? ⟨w3.heap.size, 0, none⟩ = some (.int .i64 m) ∧ w'.cell? ⟨w3.heap.size, 1, none⟩ = some (.slice ox n cx)) v1 := by go_keep
    refine hK.out _ _ (FlB (w7.heap.size)) (by rfl) (fun b hb => hb.below hbB (Nat.le_refl _)) (fun _ => hHeld) ?_
    clear hK K hHeld
    try simp only [List.getElem_toArray, List.getElem_cons_zero, List.getElem_cons_succ, Act.put, List.setIfInBounds_toArray, List.set_cons_zero, List.set_cons_succ]
    refine wpFl_step (f := 6) (slot := 12) (c := 5) (Z := (.cells #[.int .i64 0, .slice none 0 0] 25)) (F := fun u => Below (w7.heap.size) w7 u ∧ OwS u (w7.heap.size) (.slice oA n cA) (clnT m n cw) ∧ OwS u (w7.heap.size) (.slice oB n cB) (timesT m n L X)) (Bx := FlB (w7.heap.size)) rfl rfl (by decide) (by as_aux_lemma => kernel_rfl) (by as_aux_lemma => kernel_rfl) ?al6 ?bx6 ?hs6 ?f6 ?st6 ?step6
    case al6 => as_aux_lemma => (intro u K h; (try dsimp only at h ⊢); go_simp; exact h)
    case bx6 => as_aux_lemma => (rintro u ⟨hd, hA, hB⟩; exact FlB.new hd.size)
    case hs6 => as_aux_lemma =>
      rintro u ⟨hd, hA, hB⟩
      obtain ⟨qs_CB71_0, qs_CB71_1⟩ := CB7.1.below hd (Nat.le_refl _)
      obtain ⟨qs_LB71_0, qs_LB71_1⟩ := LB7.1.below hd (Nat.le_refl _)
      obtain ⟨qs_XB71_0, qs_XB71_1⟩ := XB7.1.below hd (Nat.le_refl _)
      go_keep
    case f6 => exact ⟨hd, hA, hB⟩
    case st6 => as_aux_lemma => (rintro u ⟨hd, hA, hB⟩; have hb : Below u.heap.size u (u.alloc (.cells #[.int .i64 0, .slice none 0 0] 25)) := (Below.refl _ _).alloc (Nat.le_refl _) _; exact ⟨hd.trans (hb.mono hd.size), hA.alloc _, hB.alloc _⟩)
    case step6 =>
    clear hsd
    rintro u2 x2 ⟨hd, hA, hB⟩ K hK
    have hsd := hd.size
    obtain ⟨q2_CB71_0, q2_CB71_1⟩ := CB7.1.below hd (Nat.le_refl _)
    obtain ⟨q2_LB71_0, q2_LB71_1⟩ := LB7.1.below hd (Nat.le_refl _)
    obtain ⟨q2_XB71_0, q2_XB71_1⟩ := XB7.1.below hd (Nat.le_refl _)
    (try dsimp only)
    go_simp
    go_at_call 37
    refine (minusP_n m m n _ _ (clnT m n cw) (timesT m n L X) _ hA.rd hB.rd (by omega) (by omega) hm hm' (by first | assumption | exact timesT_ok (by omega) _ _ _ | exact addT_ok (by omega) _ _ _ | exact PlaT.sub (by omega) _ _ _ | exact PlaT.sca (by omega) _ _ _ | exact PlaT.one (by omega) _ | exact PlaT.inv (by omega) _ _ | exact hornT_ok (by omega) _ _ _ | exact PlaT.cln (by omega) _ _) (by first | assumption | exact timesT_ok (by omega) _ _ _ | exact addT_ok (by omega) _ _ _ | exact PlaT.sub (by omega) _ _ _ | exact PlaT.sca (by omega) _ _ _ | exact PlaT.one (by omega) _ | exact PlaT.inv (by omega) _ _ | exact hornT_ok (by omega) _ _ _ | exact PlaT.cln (by omega) _ _)).mono ?_
    rintro e v2 ⟨_, rfl, hC, hbC⟩
    obtain ⟨oC, cC, rfl⟩ := hC.shapeN (n := n) (tri_len _ _)
    go_wp2_with fail
    have hsd2 := hbC.size
    have hrC := hC
    clear hA
    clear hB
    have hC := hC.mono (B' := w7.heap.size) hd.size
    have hd := hd.trans (hbC.mono hd.size)
    obtain ⟨q2n_CB71_0, q2n_CB71_1⟩ := CB7.1.below hd (Nat.le_refl _)
    obtain ⟨q2n_LB71_0, q2n_LB71_1⟩ := LB7.1.below hd (Nat.le_refl _)
    obtain ⟨q2n_XB71_0, q2n_XB71_1⟩ := XB7.1.below hd (Nat.le_refl _)
    have hHeld : (fun w' : World => w'.cell? ⟨w1.heap.size + 1, 0, none⟩ = some (.int .i64 m) ∧ w'.cell? ⟨w1.heap.size + 1, 1, none⟩ = some (.slice (some ⟨gW, 0, none⟩) n cW) ∧ w'.cell? ⟨w6.heap.size, 0, none⟩ = some (.int .i64 m) ∧ w'.cell? ⟨w6.heap.size, 1, none⟩ = some (.slice oL n cL) ∧ w'.cell? ⟨w3.heap.size, 0, none⟩ = some (.int .i64 m) ∧ w'.cell? ⟨w3.heap.size, 1, none⟩ = some (.slice ox n cx)) v2 := by go_keep
    refine hK.out _ _ (FlE (w7.heap.size) (fun w => RdT w (.slice oC n cC) (subT m n (clnT m n cw) (timesT m n L X)))) (by rfl) (fun b hb => ⟨hb.below hbC (Nat.le_refl _), hrC.flOld hb.lt⟩) (fun _ => hHeld) ?_
    clear hK K hHeld
    try simp only [List.getElem_toArray, List.getElem_cons_zero, List.getElem_cons_succ, Act.put, List.setIfInBounds_toArray, List.set_cons_zero, List.set_cons_succ]
    clear hsd
    have hsd := hd.size
    refine wpFl_end (f := 6) (Z := (.cells #[.int .i64 0, .slice none 0 0] 25)) (F := fun u => Below (w7.heap.size) w7 u ∧ OwS u (w7.heap.size) (.slice oC n cC) (subT m n (clnT m n cw) (timesT m n L X))) rfl (by as_aux_lemma => kernel_rfl) ?al7 ?bx7 ?hs7 ?f7 ?st7 ?H7
    case al7 => as_aux_lemma => (intro u K h; (try dsimp only at h ⊢); go_simp; exact h)
    case bx7 => as_aux_lemma => (rintro u ⟨hd, hC⟩; exact ⟨FlB.new hd.size, hC.flNew _⟩)
    case hs7 => as_aux_lemma =>
      rintro u ⟨hd, hC⟩
      obtain ⟨qs_CB71_0, qs_CB71_1⟩ := CB7.1.below hd (Nat.le_refl _)
      obtain ⟨qs_LB71_0, qs_LB71_1⟩ := LB7.1.below hd (Nat.le_refl _)
      obtain ⟨qs_XB71_0, qs_XB71_1⟩ := XB7.1.below hd (Nat.le_refl _)
      go_keep
    case f7 => exact ⟨hd, hC⟩
    case st7 => as_aux_lemma => (rintro u ⟨hd, hC⟩; have hb : Below u.heap.size u (u.alloc (.cells #[.int .i64 0, .slice none 0 0] 25)) := (Below.refl _ _).alloc (Nat.le_refl _) _; exact ⟨hd.trans (hb.mono hd.size), hC.alloc _⟩)
    case H7 =>
    rintro u b ⟨hd, hC⟩ ⟨hB, hP⟩
    obtain ⟨⟨z0, z1⟩, zf⟩ := id hB.1
    (try dsimp only)
    refine wpAnyK_oneL (i := 7) rfl (by as_aux_lemma => kernel_rfl) (fun K hK => ?_)
    go_simp
    (try go_wp2_with fail)
    refine hK.out _ _ (fun h => absurd h (by decide)) ?_
    clear hK K
    try simp only [List.getElem_toArray, List.getElem_cons_zero, List.getElem_cons_succ, Act.put, List.setIfInBounds_toArray, List.set_cons_zero, List.set_cons_succ]
    refine wpAnyK_done (by as_aux_lemma => kernel_rfl) ?_ _
    go_wp2_with fail
    go_meet
    exact ⟨b, oC, cC, rfl, hB.1.put _ _, hP _ _, (hd.setCell hB.2 _).setCell hB.2 _⟩
  case rest =>
  obtain ⟨w8, rfl⟩ : ∃ u, u = wc := ⟨_, rfl⟩
  obtain ⟨bV, oV, cV, rfl, RbV, hbV, hb⟩ := hcut
  obtain ⟨V, hV_⟩ : ∃ V, V = subT m n (clnT m n cw) (timesT m n L X) := ⟨_, rfl⟩
  rw [← hV_] at hbV
  have HV : PlaT m n V := by rw [hV_]; exact (by first | assumption | exact timesT_ok (by omega) _ _ _ | exact addT_ok (by omega) _ _ _ | exact PlaT.sub (by omega) _ _ _ | exact PlaT.sca (by omega) _ _ _ | exact PlaT.one (by omega) _ | exact PlaT.inv (by omega) _ _ | exact hornT_ok (by omega) _ _ _ | exact PlaT.cln (by omega) _ _)
  have HVd := Lib.hid hV_
  clear hV_
  (have R8 := R7.below hb (Nat.le_refl _); have hv8 := hv7.below hb (Nat.le_refl _); have CW8 := CW7.below hb (Nat.le_refl _); have X8 := X7.below hb (Nat.le_refl _); have Y8 := Y7.below hb (Nat.le_refl _); have CB8 := CB7.below hb (Nat.le_refl _); have XB8 := XB7.below hb (Nat.le_refl _); have YB8 := YB7.below hb (Nat.le_refl _); have L8 := L7.below hb (Nat.le_refl _); have LB8 := LB7.below hb (Nat.le_refl _); have B8 := B7.trans (hb.mono B7.size); clear R7 hv7 CW7 X7 Y7 CB7 XB7 YB7 L7 LB7 B7)
  clear hb
  have VB8 := RbV
  have V8 := hbV
  clear RbV hbV
  have lV := VB8.1.lt
  have lL8 := LB8.1.lt
  obtain ⟨⟨y0, y1⟩, -⟩ := id LB8
  go_wp2_with fail
  clear y0 y1
  refine (timesP_c m m n _ _ L L _ L8 L8 (by omega) (by omega) hm (by omega) HLi HLi).mono ?_
  rintro e w9 ⟨v9', rfl, h9, hb⟩
  obtain ⟨oQ, cQ, rfl⟩ := h9.shapeN (n := n) (tri_len _ _)
  (have R9 := R8.below hb (Nat.le_refl _); have hv9 := hv8.below hb (Nat.le_refl _); have CW9 := CW8.below hb (Nat.le_refl _); have X9 := X8.below hb (Nat.le_refl _); have Y9 := Y8.below hb (Nat.le_refl _); have CB9 := CB8.below hb (Nat.le_refl _); have XB9 := XB8.below hb (Nat.le_refl _); have YB9 := YB8.below hb (Nat.le_refl _); have L9 := L8.below hb (Nat.le_refl _); have LB9 := LB8.below hb (Nat.le_refl _); have V9 := V8.below hb (Nat.le_refl _); have VB9 := VB8.below hb (Nat.le_refl _); have B9 := B8.trans (hb.mono B8.size); clear R8 hv8 CW8 X8 Y8 CB8 XB8 YB8 L8 LB8 V8 VB8 B8)
  clear hb
  have Q9 := h9.rd
  clear h9
  obtain ⟨Q, hQ_⟩ : ∃ Q, Q = timesT m n L L := ⟨_, rfl⟩
  rw [← hQ_] at Q9
  have HQ : PlaT m n Q := by rw [hQ_]; exact (by first | assumption | exact timesT_ok (by omega) _ _ _ | exact addT_ok (by omega) _ _ _ | exact PlaT.sub (by omega) _ _ _ | exact PlaT.sca (by omega) _ _ _ | exact PlaT.one (by omega) _ | exact PlaT.inv (by omega) _ _ | exact hornT_ok (by omega) _ _ _ | exact PlaT.cln (by omega) _ _)
  have HQd := Lib.hid hQ_
  clear hQ_
  go_wp2_with fail
  (have QB10 := (RB2.mk1 w9  (.int .i64 m) (.slice oQ n cQ) 25).below (w' := (w9.alloc (.cells #[.int .i64 m, .slice oQ n cQ] 25))) (by (repeat (first | exact Below.refl _ _ | (refine Below.setCell ?_ (by first | (simp; done) | (simp; omega) | omega) _) | (refine Below.alloc ?_ (by first | (simp; done) | (simp; omega) | omega) _) | (refine below_drewN ?_ _) | (refine Below.drew ?_)))) (Nat.le_refl _); have hb : Below w9.heap.size w9 (w9.alloc (.cells #[.int .i64 m, .slice oQ n cQ] 25)) := (by (repeat (first | exact Below.refl _ _ | (refine Below.setCell ?_ (by first | (simp; done) | (simp; omega) | omega) _) | (refine Below.alloc ?_ (by first | (simp; done) | (simp; omega) | omega) _) | (refine below_drewN ?_ _) | (refine Below.drew ?_)))); have R10 := R9.below hb (Nat.le_refl _); have hv10 := hv9.below hb (Nat.le_refl _); have CW10 := CW9.below hb (Nat.le_refl _); have X10 := X9.below hb (Nat.le_refl _); have Y10 := Y9.below hb (Nat.le_refl _); have CB10 := CB9.below hb (Nat.le_refl _); have XB10 := XB9.below hb (Nat.le_refl _); have YB10 := YB9.below hb (Nat.le_refl _); have L10 := L9.below hb (Nat.le_refl _); have LB10 := LB9.below hb (Nat.le_refl _); have V10 := V9.below hb (Nat.le_refl _); have VB10 := VB9.below hb (Nat.le_refl _); have Q10 := Q9.below hb (Nat.le_refl _); have B10 := B9.trans (hb.mono B9.size); have hl_w10 := hb.size; clear hb R9 hv9 CW9 X9 Y9 CB9 XB9 YB9 L9 LB9 V9 VB9 Q9 B9; generalize w9.alloc (.cells #[.int .i64 m, .slice oQ n cQ] 25) = w10 at hl_w10 B10 QB10 R10 hv10 CW10 X10 Y10 CB10 XB10 YB10 L10 LB10 V10 VB10 Q10 ⊢)
  have lQ := QB10.1.lt
  have lL10 := LB10.1.lt
  have lV10 := VB10.1.lt
  have e3 : IntKind.i64.wrap (2 * at0 ls 3) = 2 * at0 ls 3 := IntWalk.i64_in _ (by omega)
  have e4 : IntKind.i64.wrap (3 * at0 ls 4) = 3 * at0 ls 4 := IntWalk.i64_in _ (by omega)
  go_cut [14] from 50 to 84 (fun s u => ∃ (b : Nat) (o : Option Addr) (c : Nat), s = .pointer (some ⟨b, 0, none⟩) ∧ RB2 u b (.int .i64 m) (.slice o n c) ∧ RdT u (.slice o n c) (addT m n (addT m n (addT m n (addT m n (scaT m n (at0 ls 0) L) (scaT m n (at0 ls 1) V)) (scaT m n (at0 ls 2) Q)) (scaT m n (2 * at0 ls 3) (timesT m n L V))) (scaT m n (3 * at0 ls 4) (timesT m n Q V))) ∧ Below w10.heap.size w10 u)
  case first =>
    as_aux_lemma =>
    have hd : Below w10.heap.size w10 w10.drew := (Below.refl _ _).drew
    have hsd := hd.size
    obtain ⟨qz_LB101_0, qz_LB101_1⟩ := LB10.1.below hd (Nat.le_refl _)
    obtain ⟨qz_VB101_0, qz_VB101_1⟩ := VB10.1.below hd (Nat.le_refl _)
    obtain ⟨qz_QB101_0, qz_QB101_1⟩ := QB10.1.below hd (Nat.le_refl _)
    have qz_a0 := (((hv10).below hd (Nat.le_refl _))).cellz (some_at0 (show 0 < ls.length by have := HL.out; omega))
    have qz_a1 := (((hv10).below hd (Nat.le_refl _))).cell0 (some_at0 (show 1 < ls.length by have := HL.out; omega))
    have qz_a2 := (((hv10).below hd (Nat.le_refl _))).cell0 (some_at0 (show 2 < ls.length by have := HL.out; omega))
    have qz_a3 := (((hv10).below hd (Nat.le_refl _))).cell0 (some_at0 (show 3 < ls.length by have := HL.out; omega))
    have qz_a4 := (((hv10).below hd (Nat.le_refl _))).cell0 (some_at0 (show 4 < ls.length by have := HL.out; omega))
    refine wp_region_K (S := fun w' => w'.cell? ⟨w6.heap.size, 0, none⟩ = some (.int .i64 m) ∧ w'.cell? ⟨w6.heap.size, 1, none⟩ = some (.slice oL n cL) ∧ w'.cell? ⟨bV, 0, none⟩ = some (.int .i64 m) ∧ w'.cell? ⟨bV, 1, none⟩ = some (.slice oV n cV) ∧ w'.cell? ⟨w9.heap.size, 0, none⟩ = some (.int .i64 m) ∧ w'.cell? ⟨w9.heap.size, 1, none⟩ = some (.slice oQ n cQ) ∧ w'.cell? ⟨bl, fl, none⟩ = some (.int .i64 (at0 ls 0)) ∧ w'.cell? ⟨bl, fl + 1, none⟩ = some (.int .i64 (at0 ls 1)) ∧ w'.cell? ⟨bl, fl + 2, none⟩ = some (.int .i64 (at0 ls 2)) ∧ w'.cell? ⟨bl, fl + 3, none⟩ = some (.int .i64 (at0 ls 3)) ∧ w'.cell? ⟨bl, fl + 4, none⟩ = some (.int .i64 (at0 ls 4))) [36] (by as_aux_lemma => kernel_rfl) ?_
    have hHeld : (fun w' : World => w'.cell? ⟨w6.heap.size, 0, none⟩ = some (.int .i64 m) ∧ w'.cell? ⟨w6.heap.size, 1, none⟩ = some (.slice oL n cL) ∧ w'.cell? ⟨bV, 0, none⟩ = some (.int .i64 m) ∧ w'.cell? ⟨bV, 1, none⟩ = some (.slice oV n cV) ∧ w'.cell? ⟨w9.heap.size, 0, none⟩ = some (.int .i64 m) ∧ w'.cell? ⟨w9.heap.size, 1, none⟩ = some (.slice oQ n cQ) ∧ w'.cell? ⟨bl, fl, none⟩ = some (.int .i64 (at0 ls 0)) ∧ w'.cell? ⟨bl, fl + 1, none⟩ = some (.int .i64 (at0 ls 1)) ∧ w'.cell? ⟨bl, fl + 2, none⟩ = some (.int .i64 (at0 ls 2)) ∧ w'.cell? ⟨bl, fl + 3, none⟩ = some (.int .i64 (at0 ls 3)) ∧ w'.cell? ⟨bl, fl + 4, none⟩ = some (.int .i64 (at0 ls 4))) w10.drew := by go_keep
    refine' wpAnyK_takeL (i := 0) (v := _) rfl (by as_aux_lemma => kernel_rfl) (by as_aux_lemma => kernel_rfl) (by as_aux_lemma => kernel_rfl) (by as_aux_lemma => kernel_rfl) (fun _ _ _ h => h) (Or.inl ⟨by rfl, ?yT8⟩) hHeld ?rT8
    case yT8 => (intro w' hSw; (try dsimp only at hSw); go_simp; try with_reducible rfl)
    try simp only [List.getElem_toArray, List.getElem_cons_zero, List.getElem_cons_succ, Act.put, List.setIfInBounds_toArray, List.set_cons_zero, List.set_cons_succ]
    refine' wpAnyK_takeL (i := 1) (v := _) rfl (by as_aux_lemma => kernel_rfl) (by as_aux_lemma => kernel_rfl) (by as_aux_lemma => kernel_rfl) (by as_aux_lemma => kernel_rfl) (fun _ _ _ h => h) (Or.inl ⟨by rfl, ?yT9⟩) hHeld ?rT9
    case yT9 => (intro w' hSw; (try dsimp only at hSw); go_simp; try with_reducible rfl)
    try simp only [List.getElem_toArray, List.getElem_cons_zero, List.getElem_cons_succ, Act.put, List.setIfInBounds_toArray, List.set_cons_zero, List.set_cons_succ]
    refine' wpAnyK_takeL (i := 2) (v := _) rfl (by as_aux_lemma => kernel_rfl) (by as_aux_lemma => kernel_rfl) (by as_aux_lemma => kernel_rfl) (by as_aux_lemma => kernel_rfl) (fun _ _ _ h => h) (Or.inl ⟨by rfl, ?yT10⟩) hHeld ?rT10
    case yT10 => (intro w' hSw; (try dsimp only at hSw); go_simp; try with_reducible rfl)
    try simp only [List.getElem_toArray, List.getElem_cons_zero, List.getElem_cons_succ, Act.put, List.setIfInBounds_toArray, List.set_cons_zero, List.set_cons_succ]
    refine' wpAnyK_takeL (i := 3) (v := _) rfl (by as_aux_lemma => kernel_rfl) (by as_aux_lemma => kernel_rfl) (by as_aux_lemma => kernel_rfl) (by as_aux_lemma => kernel_rfl) (fun _ _ _ h => h) (Or.inl ⟨by rfl, ?yT11⟩) hHeld ?rT11
    case yT11 => (intro w' hSw; (try dsimp only at hSw); go_simp; try with_reducible rfl)
    try simp only [List.getElem_toArray, List.getElem_cons_zero, List.getElem_cons_succ, Act.put, List.setIfInBounds_toArray, List.set_cons_zero, List.set_cons_succ]
    refine' wpAnyK_takeL (i := 5) (v := _) rfl (by as_aux_lemma => kernel_rfl) (by as_aux_lemma => kernel_rfl) (by as_aux_lemma => kernel_rfl) (by as_aux_lemma => kernel_rfl) (fun _ _ _ h => h) (Or.inl ⟨by rfl, ?yT12⟩) hHeld ?rT12
    case yT12 => (intro w' hSw; (try dsimp only at hSw); go_simp; try with_reducible rfl)
    try simp only [List.getElem_toArray, List.getElem_cons_zero, List.getElem_cons_succ, Act.put, List.setIfInBounds_toArray, List.set_cons_zero, List.set_cons_succ]
    refine' wpAnyK_takeL (i := 6) (v := _) rfl (by as_aux_lemma => kernel_rfl) (by as_aux_lemma => kernel_rfl) (by as_aux_lemma => kernel_rfl) (by as_aux_lemma => kernel_rfl) (fun _ _ _ h => h) (Or.inl ⟨by rfl, ?yT13⟩) hHeld ?rT13
    case yT13 => (intro w' hSw; (try dsimp only at hSw); go_simp; try with_reducible rfl)
    try simp only [List.getElem_toArray, List.getElem_cons_zero, List.getElem_cons_succ, Act.put, List.setIfInBounds_toArray, List.set_cons_zero, List.set_cons_succ]
    refine' wpAnyK_takeL (i := 7) (v := _) rfl (by as_aux_lemma => kernel_rfl) (by as_aux_lemma => kernel_rfl) (by as_aux_lemma => kernel_rfl) (by as_aux_lemma => kernel_rfl) (fun _ _ _ h => h) (Or.inl ⟨by rfl, ?yT14⟩) hHeld ?rT14
    case yT14 => (intro w' hSw; (try dsimp only at hSw); go_simp; try with_reducible rfl)
    try simp only [List.getElem_toArray, List.getElem_cons_zero, List.getElem_cons_succ, Act.put, List.setIfInBounds_toArray, List.set_cons_zero, List.set_cons_succ]
    refine' wpAnyK_takeL (i := 8) (v := _) rfl (by as_aux_lemma => kernel_rfl) (by as_aux_lemma => kernel_rfl) (by as_aux_lemma => kernel_rfl) (by as_aux_lemma => kernel_rfl) (fun _ _ _ h => h) (Or.inl ⟨by rfl, ?yT15⟩) hHeld ?rT15
    case yT15 => (intro w' hSw; (try dsimp only at hSw); go_simp; try with_reducible rfl)
    try simp only [List.getElem_toArray, List.getElem_cons_zero, List.getElem_cons_succ, Act.put, List.setIfInBounds_toArray, List.set_cons_zero, List.set_cons_succ]
    refine' wpAnyK_takeL (i := 11) (v := _) rfl (by as_aux_lemma => kernel_rfl) (by as_aux_lemma => kernel_rfl) (by as_aux_lemma => kernel_rfl) (by as_aux_lemma => kernel_rfl) (fun _ _ _ h => h) (Or.inl ⟨by rfl, ?yT16⟩) hHeld ?rT16
    case yT16 => (intro w' hSw; (try dsimp only at hSw); go_simp; try with_reducible rfl)
    try simp only [List.getElem_toArray, List.getElem_cons_zero, List.getElem_cons_succ, Act.put, List.setIfInBounds_toArray, List.set_cons_zero, List.set_cons_succ]
    refine' wpAnyK_takeL (i := 12) (v := _) rfl (by as_aux_lemma => kernel_rfl) (by as_aux_lemma => kernel_rfl) (by as_aux_lemma => kernel_rfl) (by as_aux_lemma => kernel_rfl) (fun _ _ _ h => h) (Or.inl ⟨by rfl, ?yT17⟩) hHeld ?rT17
    case yT17 => (intro w' hSw; (try dsimp only at hSw); go_simp; try with_reducible rfl)
    try simp only [List.getElem_toArray, List.getElem_cons_zero, List.getElem_cons_succ, Act.put, List.setIfInBounds_toArray, List.set_cons_zero, List.set_cons_succ]
    refine' wpAnyK_takeL (i := 13) (v := _) rfl (by as_aux_lemma => kernel_rfl) (by as_aux_lemma => kernel_rfl) (by as_aux_lemma => kernel_rfl) (by as_aux_lemma => kernel_rfl) (fun _ _ _ h => h) (Or.inl ⟨by rfl, ?yT18⟩) hHeld ?rT18
    case yT18 => (intro w' hSw; (try dsimp only at hSw); go_simp; try with_reducible rfl)
    try simp only [List.getElem_toArray, List.getElem_cons_zero, List.getElem_cons_succ, Act.put, List.setIfInBounds_toArray, List.set_cons_zero, List.set_cons_succ]
    refine' wpAnyK_takeL (i := 14) (v := _) rfl (by as_aux_lemma => kernel_rfl) (by as_aux_lemma => kernel_rfl) (by as_aux_lemma => kernel_rfl) (by as_aux_lemma => kernel_rfl) (fun _ _ _ h => h) (Or.inl ⟨by rfl, ?yT19⟩) hHeld ?rT19
    case yT19 => (intro w' hSw; (try dsimp only at hSw); go_simp; try with_reducible rfl)
    try simp only [List.getElem_toArray, List.getElem_cons_zero, List.getElem_cons_succ, Act.put, List.setIfInBounds_toArray, List.set_cons_zero, List.set_cons_succ]
    refine' wpAnyK_takeL (i := 17) (v := _) rfl (by as_aux_lemma => kernel_rfl) (by as_aux_lemma => kernel_rfl) (by as_aux_lemma => kernel_rfl) (by as_aux_lemma => kernel_rfl) (fun _ _ _ h => h) (Or.inl ⟨by rfl, ?yT20⟩) hHeld ?rT20
    case yT20 => (intro w' hSw; (try dsimp only at hSw); go_simp; try with_reducible rfl)
    try simp only [List.getElem_toArray, List.getElem_cons_zero, List.getElem_cons_succ, Act.put, List.setIfInBounds_toArray, List.set_cons_zero, List.set_cons_succ]
    refine' wpAnyK_takeL (i := 18) (v := _) rfl (by as_aux_lemma => kernel_rfl) (by as_aux_lemma => kernel_rfl) (by as_aux_lemma => kernel_rfl) (by as_aux_lemma => kernel_rfl) (fun _ _ _ h => h) (Or.inl ⟨by rfl, ?yT21⟩) hHeld ?rT21
    case yT21 => (intro w' hSw; (try dsimp only at hSw); go_simp; try with_reducible rfl)
    try simp only [List.getElem_toArray, List.getElem_cons_zero, List.getElem_cons_succ, Act.put, List.setIfInBounds_toArray, List.set_cons_zero, List.set_cons_succ]
    refine' wpAnyK_takeL (i := 20) (v := _) rfl (by as_aux_lemma => kernel_rfl) (by as_aux_lemma => kernel_rfl) (by as_aux_lemma => kernel_rfl) (by as_aux_lemma => kernel_rfl) (fun _ _ _ h => h) (Or.inl ⟨by rfl, ?yT22⟩) hHeld ?rT22
    case yT22 => (intro w' hSw; (try dsimp only at hSw); go_simp; try with_reducible rfl)
    try simp only [List.getElem_toArray, List.getElem_cons_zero, List.getElem_cons_succ, Act.put, List.setIfInBounds_toArray, List.set_cons_zero, List.set_cons_succ]
    refine' wpAnyK_takeL (i := 21) (v := _) rfl (by as_aux_lemma => kernel_rfl) (by as_aux_lemma => kernel_rfl) (by as_aux_lemma => kernel_rfl) (by as_aux_lemma => kernel_rfl) (fun _ _ _ h => h) (Or.inl ⟨by rfl, ?yT23⟩) hHeld ?rT23
    case yT23 => (intro w' hSw; (try dsimp only at hSw); go_simp; try with_reducible rfl)
    try simp only [List.getElem_toArray, List.getElem_cons_zero, List.getElem_cons_succ, Act.put, List.setIfInBounds_toArray, List.set_cons_zero, List.set_cons_succ]
    refine' wpAnyK_takeL (i := 22) (v := _) rfl (by as_aux_lemma => kernel_rfl) (by as_aux_lemma => kernel_rfl) (by as_aux_lemma => kernel_rfl) (by as_aux_lemma => kernel_rfl) (fun _ _ _ h => h) (Or.inl ⟨by rfl, ?yT24⟩) hHeld ?rT24
    case yT24 => (intro w' hSw; (try dsimp only at hSw); go_simp; try with_reducible rfl)
    try simp only [List.getElem_toArray, List.getElem_cons_zero, List.getElem_cons_succ, Act.put, List.setIfInBounds_toArray, List.set_cons_zero, List.set_cons_succ]
    refine' wpAnyK_takeL (i := 23) (v := _) rfl (by as_aux_lemma => kernel_rfl) (by as_aux_lemma => kernel_rfl) (by as_aux_lemma => kernel_rfl) (by as_aux_lemma => kernel_rfl) (fun _ _ _ h => h) (Or.inl ⟨by rfl, ?yT25⟩) hHeld ?rT25
    case yT25 => (intro w' hSw; (try dsimp only at hSw); go_simp; try with_reducible rfl)
    try simp only [List.getElem_toArray, List.getElem_cons_zero, List.getElem_cons_succ, Act.put, List.setIfInBounds_toArray, List.set_cons_zero, List.set_cons_succ]
    refine' wpAnyK_takeL (i := 26) (v := _) rfl (by as_aux_lemma => kernel_rfl) (by as_aux_lemma => kernel_rfl) (by as_aux_lemma => kernel_rfl) (by as_aux_lemma => kernel_rfl) (fun _ _ _ h => h) (Or.inl ⟨by rfl, ?yT26⟩) hHeld ?rT26
    case yT26 => (intro w' hSw; (try dsimp only at hSw); go_simp; try with_reducible rfl)
    try simp only [List.getElem_toArray, List.getElem_cons_zero, List.getElem_cons_succ, Act.put, List.setIfInBounds_toArray, List.set_cons_zero, List.set_cons_succ]
    refine' wpAnyK_takeL (i := 27) (v := _) rfl (by as_aux_lemma => kernel_rfl) (by as_aux_lemma => kernel_rfl) (by as_aux_lemma => kernel_rfl) (by as_aux_lemma => kernel_rfl) (fun _ _ _ h => h) (Or.inl ⟨by rfl, ?yT27⟩) hHeld ?rT27
    case yT27 => (intro w' hSw; (try dsimp only at hSw); go_simp; try with_reducible rfl)
    try simp only [List.getElem_toArray, List.getElem_cons_zero, List.getElem_cons_succ, Act.put, List.setIfInBounds_toArray, List.set_cons_zero, List.set_cons_succ]
    refine' wpAnyK_takeL (i := 29) (v := _) rfl (by as_aux_lemma => kernel_rfl) (by as_aux_lemma => kernel_rfl) (by as_aux_lemma => kernel_rfl) (by as_aux_lemma => kernel_rfl) (fun _ _ _ h => h) (Or.inl ⟨by rfl, ?yT28⟩) hHeld ?rT28
    case yT28 => (intro w' hSw; (try dsimp only at hSw); go_simp; try with_reducible rfl)
    try simp only [List.getElem_toArray, List.getElem_cons_zero, List.getElem_cons_succ, Act.put, List.setIfInBounds_toArray, List.set_cons_zero, List.set_cons_succ]
    refine' wpAnyK_takeL (i := 30) (v := _) rfl (by as_aux_lemma => kernel_rfl) (by as_aux_lemma => kernel_rfl) (by as_aux_lemma => kernel_rfl) (by as_aux_lemma => kernel_rfl) (fun _ _ _ h => h) (Or.inl ⟨by rfl, ?yT29⟩) hHeld ?rT29
    case yT29 => (intro w' hSw; (try dsimp only at hSw); go_simp; try with_reducible rfl)
    try simp only [List.getElem_toArray, List.getElem_cons_zero, List.getElem_cons_succ, Act.put, List.setIfInBounds_toArray, List.set_cons_zero, List.set_cons_succ]
    refine' wpAnyK_takeL (i := 31) (v := _) rfl (by as_aux_lemma => kernel_rfl) (by as_aux_lemma => kernel_rfl) (by as_aux_lemma => kernel_rfl) (by as_aux_lemma => kernel_rfl) (fun _ _ _ h => h) (Or.inl ⟨by rfl, ?yT30⟩) hHeld ?rT30
    case yT30 => (intro w' hSw; (try dsimp only at hSw); go_simp; try with_reducible rfl)
    try simp only [List.getElem_toArray, List.getElem_cons_zero, List.getElem_cons_succ, Act.put, List.setIfInBounds_toArray, List.set_cons_zero, List.set_cons_succ]
    refine' wpAnyK_takeL (i := 32) (v := _) rfl (by as_aux_lemma => kernel_rfl) (by as_aux_lemma => kernel_rfl) (by as_aux_lemma => kernel_rfl) (by as_aux_lemma => kernel_rfl) (fun _ _ _ h => h) (Or.inl ⟨by rfl, ?yT31⟩) hHeld ?rT31
    case yT31 => (intro w' hSw; (try dsimp only at hSw); go_simp; try with_reducible rfl)
    try simp only [List.getElem_toArray, List.getElem_cons_zero, List.getElem_cons_succ, Act.put, List.setIfInBounds_toArray, List.set_cons_zero, List.set_cons_succ]
    clear hHeld
    refine wpFl_start (f := 35) (slot := 14) (Bx := FlB (w10.heap.size)) (x0 := undef) (by rfl) ?_
    try simp only [List.getElem_toArray, List.getElem_cons_zero, List.getElem_cons_succ, Act.put, List.setIfInBounds_toArray, List.set_cons_zero, List.set_cons_succ]
    refine wpFl_step (f := 35) (slot := 14) (c := 4) (Z := (.cells #[.int .i64 0, .slice none 0 0] 25)) (F := fun u => Below (w10.heap.size) w10 u) (Bx := FlB (w10.heap.size)) rfl rfl (by decide) (by as_aux_lemma => kernel_rfl) (by as_aux_lemma => kernel_rfl) ?al32 ?bx32 ?hs32 ?f32 ?st32 ?step32
    case al32 => as_aux_lemma => (intro u K h; (try dsimp only at h ⊢); go_simp; exact h)
    case bx32 => as_aux_lemma => (rintro u hd; exact FlB.new hd.size)
    case hs32 => as_aux_lemma =>
      rintro u hd
      obtain ⟨qs_LB101_0, qs_LB101_1⟩ := LB10.1.below hd (Nat.le_refl _)
      obtain ⟨qs_VB101_0, qs_VB101_1⟩ := VB10.1.below hd (Nat.le_refl _)
      obtain ⟨qs_QB101_0, qs_QB101_1⟩ := QB10.1.below hd (Nat.le_refl _)
      have qs_a0 := (((hv10).below hd (Nat.le_refl _))).cellz (some_at0 (show 0 < ls.length by have := HL.out; omega))
      have qs_a1 := (((hv10).below hd (Nat.le_refl _))).cell0 (some_at0 (show 1 < ls.length by have := HL.out; omega))
      have qs_a2 := (((hv10).below hd (Nat.le_refl _))).cell0 (some_at0 (show 2 < ls.length by have := HL.out; omega))
      have qs_a3 := (((hv10).below hd (Nat.le_refl _))).cell0 (some_at0 (show 3 < ls.length by have := HL.out; omega))
      have qs_a4 := (((hv10).below hd (Nat.le_refl _))).cell0 (some_at0 (show 4 < ls.length by have := HL.out; omega))
      go_keep
    case f32 => exact hd
    case st32 => as_aux_lemma => (rintro u hd; have hb : Below u.heap.size u (u.alloc (.cells #[.int .i64 0, .slice none 0 0] 25)) := (Below.refl _ _).alloc (Nat.le_refl _) _; exact hd.trans (hb.mono hd.size))
    case step32 =>
    clear hsd
    intro u0 x0 hd K hK
    have hsd := hd.size
    obtain ⟨q0_LB101_0, q0_LB101_1⟩ := LB10.1.below hd (Nat.le_refl _)
    obtain ⟨q0_VB101_0, q0_VB101_1⟩ := VB10.1.below hd (Nat.le_refl _)
    obtain ⟨q0_QB101_0, q0_QB101_1⟩ := QB10.1.below hd (Nat.le_refl _)
    have q0_a0 := (((hv10).below hd (Nat.le_refl _))).cellz (some_at0 (show 0 < ls.length by have := HL.out; omega))
    have q0_a1 := (((hv10).below hd (Nat.le_refl _))).cell0 (some_at0 (show 1 < ls.length by have := HL.out; omega))
    have q0_a2 := (((hv10).below hd (Nat.le_refl _))).cell0 (some_at0 (show 2 < ls.length by have := HL.out; omega))
    have q0_a3 := (((hv10).below hd (Nat.le_refl _))).cell0 (some_at0 (show 3 < ls.length by have := HL.out; omega))
    have q0_a4 := (((hv10).below hd (Nat.le_refl _))).cell0 (some_at0 (show 4 < ls.length by have := HL.out; omega))
    (try dsimp only)
    go_simp
    go_at_call 39
    refine (scaledP_n m (at0 ls 0) n _ L _ ((L10).below hd (Nat.le_refl _)) (by omega) (by omega) hm hm' (by first | assumption | exact timesT_ok (by omega) _ _ _ | exact addT_ok (by omega) _ _ _ | exact PlaT.sub (by omega) _ _ _ | exact PlaT.sca (by omega) _ _ _ | exact PlaT.one (by omega) _ | exact PlaT.inv (by omega) _ _ | exact hornT_ok (by omega) _ _ _ | exact PlaT.cln (by omega) _ _) (by omega) (by omega)).mono ?_
    rintro e v0 ⟨_, rfl, hA, hbA⟩
    obtain ⟨oA, cA, rfl⟩ := hA.shapeN (n := n) (tri_len _ _)
    go_wp2_with fail
    have hsd0 := hbA.size
    have hA := hA.mono (B' := w10.heap.size) hd.size
    have hd := hd.trans (hbA.mono hd.size)
    obtain ⟨q0n_LB101_0, q0n_LB101_1⟩ := LB10.1.below hd (Nat.le_refl _)
    obtain ⟨q0n_VB101_0, q0n_VB101_1⟩ := VB10.1.below hd (Nat.le_refl _)
    obtain ⟨q0n_QB101_0, q0n_QB101_1⟩ := QB10.1.below hd (Nat.le_refl _)
    have q0n_a0 := (((hv10).below hd (Nat.le_refl _))).cellz (some_at0 (show 0 < ls.length by have := HL.out; omega))
    have q0n_a1 := (((hv10).below hd (Nat.le_refl _))).cell0 (some_at0 (show 1 < ls.length by have := HL.out; omega))
    have q0n_a2 := (((hv10).below hd (Nat.le_refl _))).cell0 (some_at0 (show 2 < ls.length by have := HL.out; omega))
    have q0n_a3 := (((hv10).below hd (Nat.le_refl _))).cell0 (some_at0 (show 3 < ls.length by have := HL.out; omega))
    have q0n_a4 := (((hv10).below hd (Nat.le_refl _))).cell0 (some_at0 (show 4 < ls.length by have := HL.out; omega))
    have hHeld : (fun w' : World => w'.cell? ⟨w6.heap.size, 0, none⟩ = some (.int .i64 m) ∧ w'.cell? ⟨w6.heap.size, 1, none⟩ = some (.slice oL n cL) ∧ w'.cell? ⟨bV, 0, none⟩ = some (.int .i64 m) ∧ w'.cell? ⟨bV, 1, none⟩ = some (.slice oV n cV) ∧ w'.cell? ⟨w9.heap.size, 0, none⟩ = some (.int .i64 m) ∧ w'.cell? ⟨w9.heap.size, 1, none⟩ = some (.slice oQ n cQ) ∧ w'.cell? ⟨bl, fl, none⟩ = some (.int .i64 (at0 ls 0)) ∧ w'.cell? ⟨bl, fl + 1, none⟩ = some (.int .i64 (at0 ls 1)) ∧ w'.cell? ⟨bl, fl + 2, none⟩ = some (.int .i64 (at0 ls 2)) ∧ w'.cell? ⟨bl, fl + 3, none⟩ = some (.int .i64 (at0 ls 3)) ∧ w'.cell? ⟨bl, fl + 4, none⟩ = some (.int .i64 (at0 ls 4))) v0 := by go_keep
    refine hK.out _ _ (FlB (w10.heap.size)) (by rfl) (fun b hb => hb.below hbA (Nat.le_refl _)) (fun _ => hHeld) ?_
    clear hK K hHeld
    try simp only [List.getElem_toArray, List.getElem_cons_zero, List.getElem_cons_succ, Act.put, List.setIfInBounds_toArray, List.set_cons_zero, List.set_cons_succ]
    refine wpFl_step (f := 35) (slot := 14) (c := 9) (Z := (.cells #[.int .i64 0, .slice none 0 0] 25)) (F := fun u => Below (w10.heap.size) w10 u ∧ OwS u (w10.heap.size) (.slice oA n cA) (scaT m n (at0 ls 0) L)) (Bx := FlB (w10.heap.size)) rfl rfl (by decide) (by as_aux_lemma => kernel_rfl) (by as_aux_lemma => kernel_rfl) ?al33 ?bx33 ?hs33 ?f33 ?st33 ?step33
    case al33 => as_aux_lemma => (intro u K h; (try dsimp only at h ⊢); go_simp; exact h)
    case bx33 => as_aux_lemma => (rintro u ⟨hd, hA⟩; exact FlB.new hd.size)
    case hs33 => as_aux_lemma =>
      rintro u ⟨hd, hA⟩
      obtain ⟨qs_LB101_0, qs_LB101_1⟩ := LB10.1.below hd (Nat.le_refl _)
      obtain ⟨qs_VB101_0, qs_VB101_1⟩ := VB10.1.below hd (Nat.le_refl _)
      obtain ⟨qs_QB101_0, qs_QB101_1⟩ := QB10.1.below hd (Nat.le_refl _)
      have qs_a0 := (((hv10).below hd (Nat.le_refl _))).cellz (some_at0 (show 0 < ls.length by have := HL.out; omega))
      have qs_a1 := (((hv10).below hd (Nat.le_refl _))).cell0 (some_at0 (show 1 < ls.length by have := HL.out; omega))
      have qs_a2 := (((hv10).below hd (Nat.le_refl _))).cell0 (some_at0 (show 2 < ls.length by have := HL.out; omega))
      have qs_a3 := (((hv10).below hd (Nat.le_refl _))).cell0 (some_at0 (show 3 < ls.length by have := HL.out; omega))
      have qs_a4 := (((hv10).below hd (Nat.le_refl _))).cell0 (some_at0 (show 4 < ls.length by have := HL.out; omega))
      go_keep
    case f33 => exact ⟨hd, hA⟩
    case st33 => as_aux_lemma => (rintro u ⟨hd, hA⟩; have hb : Below u.heap.size u (u.alloc (.cells #[.int .i64 0, .slice none 0 0] 25)) := (Below.refl _ _).alloc (Nat.le_refl _) _; exact ⟨hd.trans (hb.mono hd.size), hA.alloc _⟩)
    case step33 =>
    clear hsd
    rintro u1 x1 ⟨hd, hA⟩ K hK
    have hsd := hd.size
    obtain ⟨q1_LB101_0, q1_LB101_1⟩ := LB10.1.below hd (Nat.le_refl _)
    obtain ⟨q1_VB101_0, q1_VB101_1⟩ := VB10.1.below hd (Nat.le_refl _)
    obtain ⟨q1_QB101_0, q1_QB101_1⟩ := QB10.1.below hd (Nat.le_refl _)
    have q1_a0 := (((hv10).below hd (Nat.le_refl _))).cellz (some_at0 (show 0 < ls.length by have := HL.out; omega))
    have q1_a1 := (((hv10).below hd (Nat.le_refl _))).cell0 (some_at0 (show 1 < ls.length by have := HL.out; omega))
    have q1_a2 := (((hv10).below hd (Nat.le_refl _))).cell0 (some_at0 (show 2 < ls.length by have := HL.out; omega))
    have q1_a3 := (((hv10).below hd (Nat.le_refl _))).cell0 (some_at0 (show 3 < ls.length by have := HL.out; omega))
    have q1_a4 := (((hv10).below hd (Nat.le_refl _))).cell0 (some_at0 (show 4 < ls.length by have := HL.out; omega))
    (try dsimp only)
    go_simp
    go_at_call 39
    refine (scaledP_n m (at0 ls 1) n _ V _ ((V10).below hd (Nat.le_refl _)) (by omega) (by omega) hm hm' (by first | assumption | exact timesT_ok (by omega) _ _ _ | exact addT_ok (by omega) _ _ _ | exact PlaT.sub (by omega) _ _ _ | exact PlaT.sca (by omega) _ _ _ | exact PlaT.one (by omega) _ | exact PlaT.inv (by omega) _ _ | exact hornT_ok (by omega) _ _ _ | exact PlaT.cln (by omega) _ _) (by omega) (by omega)).mono ?_
    rintro e v1 ⟨_, rfl, hB, hbB⟩
    obtain ⟨oB, cB, rfl⟩ := hB.shapeN (n := n) (tri_len _ _)
    go_wp2_with fail
    have hsd1 := hbB.size
    have hA := hA.below hbB
    have hB := hB.mono (B' := w10.heap.size) hd.size
    have hd := hd.trans (hbB.mono hd.size)
    obtain ⟨q1n_LB101_0, q1n_LB101_1⟩ := LB10.1.below hd (Nat.le_refl _)
    obtain ⟨q1n_VB101_0, q1n_VB101_1⟩ := VB10.1.below hd (Nat.le_refl _)
    obtain ⟨q1n_QB101_0, q1n_QB101_1⟩ := QB10.1.below hd (Nat.le_refl _)
    have q1n_a0 := (((hv10).below hd (Nat.le_refl _))).cellz (some_at0 (show 0 < ls.length by have := HL.out; omega))
    have q1n_a1 := (((hv10).below hd (Nat.le_refl _))).cell0 (some_at0 (show 1 < ls.length by have := HL.out; omega))
    have q1n_a2 := (((hv10).below hd (Nat.le_refl _))).cell0 (some_at0 (show 2 < ls.length by have := HL.out; omega))
    have q1n_a3 := (((hv10).below hd (Nat.le_refl _))).cell0 (some_at0 (show 3 < ls.length by have := HL.out; omega))
    have q1n_a4 := (((hv10).below hd (Nat.le_refl _))).cell0 (some_at0 (show 4 < ls.length by have := HL.out; omega))
    have hHeld : (fun w' : World => w'.cell? ⟨w6.heap.size, 0, none⟩ = some (.int .i64 m) ∧ w'.cell? ⟨w6.heap.size, 1, none⟩ = some (.slice oL n cL) ∧ w'.cell? ⟨bV, 0, none⟩ = some (.int .i64 m) ∧ w'.cell? ⟨bV, 1, none⟩ = some (.slice oV n cV) ∧ w'.cell? ⟨w9.heap.size, 0, none⟩ = some (.int .i64 m) ∧ w'.cell? ⟨w9.heap.size, 1, none⟩ = some (.slice oQ n cQ) ∧ w'.cell? ⟨bl, fl, none⟩ = some (.int .i64 (at0 ls 0)) ∧ w'.cell? ⟨bl, fl + 1, none⟩ = some (.int .i64 (at0 ls 1)) ∧ w'.cell? ⟨bl, fl + 2, none⟩ = some (.int .i64 (at0 ls 2)) ∧ w'.cell? ⟨bl, fl + 3, none⟩ = some (.int .i64 (at0 ls 3)) ∧ w'.cell? ⟨bl, fl + 4, none⟩ = some (.int .i64 (at0 ls 4))) v1 := by go_keep
    refine hK.out _ _ (FlB (w10.heap.size)) (by rfl) (fun b hb => hb.below hbB (Nat.le_refl _)) (fun _ => hHeld) ?_
    clear hK K hHeld
    try simp only [List.getElem_toArray, List.getElem_cons_zero, List.getElem_cons_succ, Act.put, List.setIfInBounds_toArray, List.set_cons_zero, List.set_cons_succ]
    refine wpFl_step (f := 35) (slot := 14) (c := 10) (Z := (.cells #[.int .i64 0, .slice none 0 0] 25)) (F := fun u => Below (w10.heap.size) w10 u ∧ OwS u (w10.heap.size) (.slice oA n cA) (scaT m n (at0 ls 0) L) ∧ OwS u (w10.heap.size) (.slice oB n cB) (scaT m n (at0 ls 1) V)) (Bx := FlB (w10.heap.size)) rfl rfl (by decide) (by as_aux_lemma => kernel_rfl) (by as_aux_lemma => kernel_rfl) ?al34 ?bx34 ?hs34 ?f34 ?st34 ?step34
    case al34 => as_aux_lemma => (intro u K h; (try dsimp only at h ⊢); go_simp; exact h)
    case bx34 => as_aux_lemma => (rintro u ⟨hd, hA, hB⟩; exact FlB.new hd.size)
    case hs34 => as_aux_lemma =>
      rintro u ⟨hd, hA, hB⟩
      obtain ⟨qs_LB101_0, qs_LB101_1⟩ := LB10.1.below hd (Nat.le_refl _)
      obtain ⟨qs_VB101_0, qs_VB101_1⟩ := VB10.1.below hd (Nat.le_refl _)
      obtain ⟨qs_QB101_0, qs_QB101_1⟩ := QB10.1.below hd (Nat.le_refl _)
      have qs_a0 := (((hv10).below hd (Nat.le_refl _))).cellz (some_at0 (show 0 < ls.length by have := HL.out; omega))
      have qs_a1 := (((hv10).below hd (Nat.le_refl _))).cell0 (some_at0 (show 1 < ls.length by have := HL.out; omega))
      have qs_a2 := (((hv10).below hd (Nat.le_refl _))).cell0 (some_at0 (show 2 < ls.length by have := HL.out; omega))
      have qs_a3 := (((hv10).below hd (Nat.le_refl _))).cell0 (some_at0 (show 3 < ls.length by have := HL.out; omega))
      have qs_a4 := (((hv10).below hd (Nat.le_refl _))).cell0 (some_at0 (show 4 < ls.length by have := HL.out; omega))
      go_keep
    case f34 => exact ⟨hd, hA, hB⟩
    case st34 => as_aux_lemma => (rintro u ⟨hd, hA, hB⟩; have hb : Below u.heap.size u (u.alloc (.cells #[.int .i64 0, .slice none 0 0] 25)) := (Below.refl _ _).alloc (Nat.le_refl _) _; exact ⟨hd.trans (hb.mono hd.size), hA.alloc _, hB.alloc _⟩)
    case step34 =>
    clear hsd
    rintro u2 x2 ⟨hd, hA, hB⟩ K hK
    have hsd := hd.size
    obtain ⟨q2_LB101_0, q2_LB101_1⟩ := LB10.1.below hd (Nat.le_refl _)
    obtain ⟨q2_VB101_0, q2_VB101_1⟩ := VB10.1.below hd (Nat.le_refl _)
    obtain ⟨q2_QB101_0, q2_QB101_1⟩ := QB10.1.below hd (Nat.le_refl _)
    have q2_a0 := (((hv10).below hd (Nat.le_refl _))).cellz (some_at0 (show 0 < ls.length by have := HL.out; omega))
    have q2_a1 := (((hv10).below hd (Nat.le_refl _))).cell0 (some_at0 (show 1 < ls.length by have := HL.out; omega))
    have q2_a2 := (((hv10).below hd (Nat.le_refl _))).cell0 (some_at0 (show 2 < ls.length by have := HL.out; omega))
    have q2_a3 := (((hv10).below hd (Nat.le_refl _))).cell0 (some_at0 (show 3 < ls.length by have := HL.out; omega))
    have q2_a4 := (((hv10).below hd (Nat.le_refl _))).cell0 (some_at0 (show 4 < ls.length by have := HL.out; omega))
    (try dsimp only)
    go_simp
    go_at_call 40
    refine (plusP_n m m n _ _ (scaT m n (at0 ls 0) L) (scaT m n (at0 ls 1) V) _ hA.rd hB.rd (by omega) (by omega) hm hm' (by first | assumption | exact timesT_ok (by omega) _ _ _ | exact addT_ok (by omega) _ _ _ | exact PlaT.sub (by omega) _ _ _ | exact PlaT.sca (by omega) _ _ _ | exact PlaT.one (by omega) _ | exact PlaT.inv (by omega) _ _ | exact hornT_ok (by omega) _ _ _ | exact PlaT.cln (by omega) _ _) (by first | assumption | exact timesT_ok (by omega) _ _ _ | exact addT_ok (by omega) _ _ _ | exact PlaT.sub (by omega) _ _ _ | exact PlaT.sca (by omega) _ _ _ | exact PlaT.one (by omega) _ | exact PlaT.inv (by omega) _ _ | exact hornT_ok (by omega) _ _ _ | exact PlaT.cln (by omega) _ _)).mono ?_
    rintro e v2 ⟨_, rfl, hC, hbC⟩
    obtain ⟨oC, cC, rfl⟩ := hC.shapeN (n := n) (tri_len _ _)
    go_wp2_with fail
    have hsd2 := hbC.size
    clear hA
    clear hB
    have hC := hC.mono (B' := w10.heap.size) hd.size
    have hd := hd.trans (hbC.mono hd.size)
    obtain ⟨q2n_LB101_0, q2n_LB101_1⟩ := LB10.1.below hd (Nat.le_refl _)
    obtain ⟨q2n_VB101_0, q2n_VB101_1⟩ := VB10.1.below hd (Nat.le_refl _)
    obtain ⟨q2n_QB101_0, q2n_QB101_1⟩ := QB10.1.below hd (Nat.le_refl _)
    have q2n_a0 := (((hv10).below hd (Nat.le_refl _))).cellz (some_at0 (show 0 < ls.length by have := HL.out; omega))
    have q2n_a1 := (((hv10).below hd (Nat.le_refl _))).cell0 (some_at0 (show 1 < ls.length by have := HL.out; omega))
    have q2n_a2 := (((hv10).below hd (Nat.le_refl _))).cell0 (some_at0 (show 2 < ls.length by have := HL.out; omega))
    have q2n_a3 := (((hv10).below hd (Nat.le_refl _))).cell0 (some_at0 (show 3 < ls.length by have := HL.out; omega))
    have q2n_a4 := (((hv10).below hd (Nat.le_refl _))).cell0 (some_at0 (show 4 < ls.length by have := HL.out; omega))
    have hHeld : (fun w' : World => w'.cell? ⟨w6.heap.size, 0, none⟩ = some (.int .i64 m) ∧ w'.cell? ⟨w6.heap.size, 1, none⟩ = some (.slice oL n cL) ∧ w'.cell? ⟨bV, 0, none⟩ = some (.int .i64 m) ∧ w'.cell? ⟨bV, 1, none⟩ = some (.slice oV n cV) ∧ w'.cell? ⟨w9.heap.size, 0, none⟩ = some (.int .i64 m) ∧ w'.cell? ⟨w9.heap.size, 1, none⟩ = some (.slice oQ n cQ) ∧ w'.cell? ⟨bl, fl, none⟩ = some (.int .i64 (at0 ls 0)) ∧ w'.cell? ⟨bl, fl + 1, none⟩ = some (.int .i64 (at0 ls 1)) ∧ w'.cell? ⟨bl, fl + 2, none⟩ = some (.int .i64 (at0 ls 2)) ∧ w'.cell? ⟨bl, fl + 3, none⟩ = some (.int .i64 (at0 ls 3)) ∧ w'.cell? ⟨bl, fl + 4, none⟩ = some (.int .i64 (at0 ls 4))) v2 := by go_keep
    refine hK.out _ _ (FlB (w10.heap.size)) (by rfl) (fun b hb => hb.below hbC (Nat.le_refl _)) (fun _ => hHeld) ?_
    clear hK K hHeld
    try simp only [List.getElem_toArray, List.getElem_cons_zero, List.getElem_cons_succ, Act.put, List.setIfInBounds_toArray, List.set_cons_zero, List.set_cons_succ]
    refine wpFl_step (f := 35) (slot := 14) (c := 15) (Z := (.cells #[.int .i64 0, .slice none 0 0] 25)) (F := fun u => Below (w10.heap.size) w10 u ∧ OwS u (w10.heap.size) (.slice oC n cC) (addT m n (scaT m n (at0 ls 0) L) (scaT m n (at0 ls 1) V))) (Bx := FlB (w10.heap.size)) rfl rfl (by decide) (by as_aux_lemma => kernel_rfl) (by as_aux_lemma => kernel_rfl) ?al35 ?bx35 ?hs35 ?f35 ?st35 ?step35
    case al35 => as_aux_lemma => (intro u K h; (try dsimp only at h ⊢); go_simp; exact h)
    case bx35 => as_aux_lemma => (rintro u ⟨hd, hC⟩; exact FlB.new hd.size)
    case hs35 => as_aux_lemma =>
      rintro u ⟨hd, hC⟩
      obtain ⟨qs_LB101_0, qs_LB101_1⟩ := LB10.1.below hd (Nat.le_refl _)
      obtain ⟨qs_VB101_0, qs_VB101_1⟩ := VB10.1.below hd (Nat.le_refl _)
      obtain ⟨qs_QB101_0, qs_QB101_1⟩ := QB10.1.below hd (Nat.le_refl _)
      have qs_a0 := (((hv10).below hd (Nat.le_refl _))).cellz (some_at0 (show 0 < ls.length by have := HL.out; omega))
      have qs_a1 := (((hv10).below hd (Nat.le_refl _))).cell0 (some_at0 (show 1 < ls.length by have := HL.out; omega))
      have qs_a2 := (((hv10).below hd (Nat.le_refl _))).cell0 (some_at0 (show 2 < ls.length by have := HL.out; omega))
      have qs_a3 := (((hv10).below hd (Nat.le_refl _))).cell0 (some_at0 (show 3 < ls.length by have := HL.out; omega))
      have qs_a4 := (((hv10).below hd (Nat.le_refl _))).cell0 (some_at0 (show 4 < ls.length by have := HL.out; omega))
      go_keep
    case f35 => exact ⟨hd, hC⟩
    case st35 => as_aux_lemma => (rintro u ⟨hd, hC⟩; have hb : Below u.heap.size u (u.alloc (.cells #[.int .i64 0, .slice none 0 0] 25)) := (Below.refl _ _).alloc (Nat.le_refl _) _; exact ⟨hd.trans (hb.mono hd.size), hC.alloc _⟩)
    case step35 =>
    clear hsd
    rintro u3 x3 ⟨hd, hC⟩ K hK
    have hsd := hd.size
    obtain ⟨q3_LB101_0, q3_LB101_1⟩ := LB10.1.below hd (Nat.le_refl _)
    obtain ⟨q3_VB101_0, q3_VB101_1⟩ := VB10.1.below hd (Nat.le_refl _)
    obtain ⟨q3_QB101_0, q3_QB101_1⟩ := QB10.1.below hd (Nat.le_refl _)
    have q3_a0 := (((hv10).below hd (Nat.le_refl _))).cellz (some_at0 (show 0 < ls.length by have := HL.out; omega))
    have q3_a1 := (((hv10).below hd (Nat.le_refl _))).cell0 (some_at0 (show 1 < ls.length by have := HL.out; omega))
    have q3_a2 := (((hv10).below hd (Nat.le_refl _))).cell0 (some_at0 (show 2 < ls.length by have := HL.out; omega))
    have q3_a3 := (((hv10).below hd (Nat.le_refl _))).cell0 (some_at0 (show 3 < ls.length by have := HL.out; omega))
    have q3_a4 := (((hv10).below hd (Nat.le_refl _))).cell0 (some_at0 (show 4 < ls.length by have := HL.out; omega))
    (try dsimp only)
    go_simp
    go_at_call 39
    refine (scaledP_n m (at0 ls 2) n _ Q _ ((Q10).below hd (Nat.le_refl _)) (by omega) (by omega) hm hm' (by first | assumption | exact timesT_ok (by omega) _ _ _ | exact addT_ok (by omega) _ _ _ | exact PlaT.sub (by omega) _ _ _ | exact PlaT.sca (by omega) _ _ _ | exact PlaT.one (by omega) _ | exact PlaT.inv (by omega) _ _ | exact hornT_ok (by omega) _ _ _ | exact PlaT.cln (by omega) _ _) (by omega) (by omega)).mono ?_
    rintro e v3 ⟨_, rfl, hD, hbD⟩
    obtain ⟨oD, cD, rfl⟩ := hD.shapeN (n := n) (tri_len _ _)
    go_wp2_with fail
    have hsd3 := hbD.size
    have hC := hC.below hbD
    have hD := hD.mono (B' := w10.heap.size) hd.size
    have hd := hd.trans (hbD.mono hd.size)
    obtain ⟨q3n_LB101_0, q3n_LB101_1⟩ := LB10.1.below hd (Nat.le_refl _)
    obtain ⟨q3n_VB101_0, q3n_VB101_1⟩ := VB10.1.below hd (Nat.le_refl _)
    obtain ⟨q3n_QB101_0, q3n_QB101_1⟩ := QB10.1.below hd (Nat.le_refl _)
    have q3n_a0 := (((hv10).below hd (Nat.le_refl _))).cellz (some_at0 (show 0 < ls.length by have := HL.out; omega))
    have q3n_a1 := (((hv10).below hd (Nat.le_refl _))).cell0 (some_at0 (show 1 < ls.length by have := HL.out; omega))
    have q3n_a2 := (((hv10).below hd (Nat.le_refl _))).cell0 (some_at0 (show 2 < ls.length by have := HL.out; omega))
    have q3n_a3 := (((hv10).below hd (Nat.le_refl _))).cell0 (some_at0 (show 3 < ls.length by have := HL.out; omega))
    have q3n_a4 := (((hv10).below hd (Nat.le_refl _))).cell0 (some_at0 (show 4 < ls.length by have := HL.out; omega))
    have hHeld : (fun w' : World => w'.cell? ⟨w6.heap.size, 0, none⟩ = some (.int .i64 m) ∧ w'.cell? ⟨w6.heap.size, 1, none⟩ = some (.slice oL n cL) ∧ w'.cell? ⟨bV, 0, none⟩ = some (.int .i64 m) ∧ w'.cell? ⟨bV, 1, none⟩ = some (.slice oV n cV) ∧ w'.cell? ⟨w9.heap.size, 0, none⟩ = some (.int .i64 m) ∧ w'.cell? ⟨w9.heap.size, 1, none⟩ = some (.slice oQ n cQ) ∧ w'.cell? ⟨bl, fl, none⟩ = some (.int .i64 (at0 ls 0)) ∧ w'.cell? ⟨bl, fl + 1, none⟩ = some (.int .i64 (at0 ls 1)) ∧ w'.cell? ⟨bl, fl + 2, none⟩ = some (.int .i64 (at0 ls 2)) ∧ w'.cell? ⟨bl, fl + 3, none⟩ = some (.int .i64 (at0 ls 3)) ∧ w'.cell? ⟨bl, fl + 4, none⟩ = some (.int .i64 (at0 ls 4))) v3 := by go_keep
    refine hK.out _ _ (FlB (w10.heap.size)) (by rfl) (fun b hb => hb.below hbD (Nat.le_refl _)) (fun _ => hHeld) ?_
    clear hK K hHeld
    try simp only [List.getElem_toArray, List.getElem_cons_zero, List.getElem_cons_succ, Act.put, List.setIfInBounds_toArray, List.set_cons_zero, List.set_cons_succ]
    refine wpFl_step (f := 35) (slot := 14) (c := 16) (Z := (.cells #[.int .i64 0, .slice none 0 0] 25)) (F := fun u => Below (w10.heap.size) w10 u ∧ OwS u (w10.heap.size) (.slice oC n cC) (addT m n (scaT m n (at0 ls 0) L) (scaT m n (at0 ls 1) V)) ∧ OwS u (w10.heap.size) (.slice oD n cD) (scaT m n (at0 ls 2) Q)) (Bx := FlB (w10.heap.size)) rfl rfl (by decide) (by as_aux_lemma => kernel_rfl) (by as_aux_lemma => kernel_rfl) ?al36 ?bx36 ?hs36 ?f36 ?st36 ?step36
    case al36 => as_aux_lemma => (intro u K h; (try dsimp only at h ⊢); go_simp; exact h)
    case bx36 => as_aux_lemma => (rintro u ⟨hd, hC, hD⟩; exact FlB.new hd.size)
    case hs36 => as_aux_lemma =>
      rintro u ⟨hd, hC, hD⟩
      obtain ⟨qs_LB101_0, qs_LB101_1⟩ := LB10.1.below hd (Nat.le_refl _)
      obtain ⟨qs_VB101_0, qs_VB101_1⟩ := VB10.1.below hd (Nat.le_refl _)
      obtain ⟨qs_QB101_0, qs_QB101_1⟩ := QB10.1.below hd (Nat.le_refl _)
      have qs_a0 := (((hv10).below hd (Nat.le_refl _))).cellz (some_at0 (show 0 < ls.length by have := HL.out; omega))
      have qs_a1 := (((hv10).below hd (Nat.le_refl _))).cell0 (some_at0 (show 1 < ls.length by have := HL.out; omega))
      have qs_a2 := (((hv10).below hd (Nat.le_refl _))).cell0 (some_at0 (show 2 < ls.length by have := HL.out; omega))
      have qs_a3 := (((hv10).below hd (Nat.le_refl _))).cell0 (some_at0 (show 3 < ls.length by have := HL.out; omega))
      have qs_a4 := (((hv10).below hd (Nat.le_refl _))).cell0 (some_at0 (show 4 < ls.length by have := HL.out; omega))
      go_keep
    case f36 => exact ⟨hd, hC, hD⟩
    case st36 => as_aux_lemma => (rintro u ⟨hd, hC, hD⟩; have hb : Below u.heap.size u (u.alloc (.cells #[.int .i64 0, .slice none 0 0] 25)) := (Below.refl _ _).alloc (Nat.le_refl _) _; exact ⟨hd.trans (hb.mono hd.size), hC.alloc _, hD.alloc _⟩)
    case step36 =>
    clear hsd
    rintro u4 x4 ⟨hd, hC, hD⟩ K hK
    have hsd := hd.size
    obtain ⟨q4_LB101_0, q4_LB101_1⟩ := LB10.1.below hd (Nat.le_refl _)
    obtain ⟨q4_VB101_0, q4_VB101_1⟩ := VB10.1.below hd (Nat.le_refl _)
    obtain ⟨q4_QB101_0, q4_QB101_1⟩ := QB10.1.below hd (Nat.le_refl _)
    have q4_a0 := (((hv10).below hd (Nat.le_refl _))).cellz (some_at0 (show 0 < ls.length by have := HL.out; omega))
    have q4_a1 := (((hv10).below hd (Nat.le_refl _))).cell0 (some_at0 (show 1 < ls.length by have := HL.out; omega))
    have q4_a2 := (((hv10).below hd (Nat.le_refl _))).cell0 (some_at0 (show 2 < ls.length by have := HL.out; omega))
    have q4_a3 := (((hv10).below hd (Nat.le_refl _))).cell0 (some_at0 (show 3 < ls.length by have := HL.out; omega))
    have q4_a4 := (((hv10).below hd (Nat.le_refl _))).cell0 (some_at0 (show 4 < ls.length by have := HL.out; omega))
    (try dsimp only)
    go_simp
    go_at_call 40
    refine (plusP_n m m n _ _ (addT m n (scaT m n (at0 ls 0) L) (scaT m n (at0 ls 1) V)) (scaT m n (at0 ls 2) Q) _ hC.rd hD.rd (by omega) (by omega) hm hm' (by first | assumption | exact timesT_ok (by omega) _ _ _ | exact addT_ok (by omega) _ _ _ | exact PlaT.sub (by omega) _ _ _ | exact PlaT.sca (by omega) _ _ _ | exact PlaT.one (by omega) _ | exact PlaT.inv (by omega) _ _ | exact hornT_ok (by omega) _ _ _ | exact PlaT.cln (by omega) _ _) (by first | assumption | exact timesT_ok (by omega) _ _ _ | exact addT_ok (by omega) _ _ _ | exact PlaT.sub (by omega) _ _ _ | exact PlaT.sca (by omega) _ _ _ | exact PlaT.one (by omega) _ | exact PlaT.inv (by omega) _ _ | exact hornT_ok (by omega) _ _ _ | exact PlaT.cln (by omega) _ _)).mono ?_
    rintro e v4 ⟨_, rfl, hE, hbE⟩
    obtain ⟨oE, cE, rfl⟩ := hE.shapeN (n := n) (tri_len _ _)
    go_wp2_with fail
    have hsd4 := hbE.size
    clear hC
    clear hD
    have hE := hE.mono (B' := w10.heap.size) hd.size
    have hd := hd.trans (hbE.mono hd.size)
    obtain ⟨q4n_LB101_0, q4n_LB101_1⟩ := LB10.1.below hd (Nat.le_refl _)
    obtain ⟨q4n_VB101_0, q4n_VB101_1⟩ := VB10.1.below hd (Nat.le_refl _)
    obtain ⟨q4n_QB101_0, q4n_QB101_1⟩ := QB10.1.below hd (Nat.le_refl _)
    have q4n_a0 := (((hv10).below hd (Nat.le_refl _))).cellz (some_at0 (show 0 < ls.length by have := HL.out; omega))
    have q4n_a1 := (((hv10).below hd (Nat.le_refl _))).cell0 (some_at0 (show 1 < ls.length by have := HL.out; omega))
    have q4n_a2 := (((hv10).below hd (Nat.le_refl _))).cell0 (some_at0 (show 2 < ls.length by have := HL.out; omega))
    have q4n_a3 := (((hv10).below hd (Nat.le_refl _))).cell0 (some_at0 (show 3 < ls.length by have := HL.out; omega))
    have q4n_a4 := (((hv10).below hd (Nat.le_refl _))).cell0 (some_at0 (show 4 < ls.length by have := HL.out; omega))
    have hHeld : (fun w' : World => w'.cell? ⟨w6.heap.size, 0, none⟩ = some (.int .i64 m) ∧ w'.cell? ⟨w6.heap.size, 1, none⟩ = some (.slice oL n cL) ∧ w'.cell? ⟨bV, 0, none⟩ = some (.int .i64 m) ∧ w'.cell? ⟨bV, 1, none⟩ = some (.slice oV n cV) ∧ w'.cell? ⟨w9.heap.size, 0, none⟩ = some (.int .i64 m) ∧ w'.cell? ⟨w9.heap.size, 1, none⟩ = some (.slice oQ n cQ) ∧ w'.cell? ⟨bl, fl, none⟩ = some (.int .i64 (at0 ls 0)) ∧ w'.cell? ⟨bl, fl + 1, none⟩ = some (.int .i64 (at0 ls 1)) ∧ w'.cell? ⟨bl, fl + 2, none⟩ = some (.int .i64 (at0 ls 2)) ∧ w'.cell? ⟨bl, fl + 3, none⟩ = some (.int .i64 (at0 ls 3)) ∧ w'.cell? ⟨bl, fl + 4, none⟩ = some (.int .i64 (at0 ls 4))) v4 := by go_keep
    refine hK.out _ _ (FlB (w10.heap.size)) (by rfl) (fun b hb => hb.below hbE (Nat.le_refl _)) (fun _ => hHeld) ?_
    clear hK K hHeld
    try simp only [List.getElem_toArray, List.getElem_cons_zero, List.getElem_cons_succ, Act.put, List.setIfInBounds_toArray, List.set_cons_zero, List.set_cons_succ]
    refine wpFl_step (f := 35) (slot := 14) (c := 19) (Z := (.cells #[.int .i64 0, .slice none 0 0] 25)) (F := fun u => Below (w10.heap.size) w10 u ∧ OwS u (w10.heap.size) (.slice oE n cE) (addT m n (addT m n (scaT m n (at0 ls 0) L) (scaT m n (at0 ls 1) V)) (scaT m n (at0 ls 2) Q))) (Bx := FlB (w10.heap.size)) rfl rfl (by decide) (by as_aux_lemma => kernel_rfl) (by as_aux_lemma => kernel_rfl) ?al37 ?bx37 ?hs37 ?f37 ?st37 ?step37
    case al37 => as_aux_lemma => (intro u K h; (try dsimp only at h ⊢); go_simp; exact h)
    case bx37 => as_aux_lemma => (rintro u ⟨hd, hE⟩; exact FlB.new hd.size)
    case hs37 => as_aux_lemma =>
      rintro u ⟨hd, hE⟩
      obtain ⟨qs_LB101_0, qs_LB101_1⟩ := LB10.1.below hd (Nat.le_refl _)
      obtain ⟨qs_VB101_0, qs_VB101_1⟩ := VB10.1.below hd (Nat.le_refl _)
      obtain ⟨qs_QB101_0, qs_QB101_1⟩ := QB10.1.below hd (Nat.le_refl _)
      have qs_a0 := (((hv10).below hd (Nat.le_refl _))).cellz (some_at0 (show 0 < ls.length by have := HL.out; omega))
      have qs_a1 := (((hv10).below hd (Nat.le_refl _))).cell0 (some_at0 (show 1 < ls.length by have := HL.out; omega))
      have qs_a2 := (((hv10).below hd (Nat.le_refl _))).cell0 (some_at0 (show 2 < ls.length by have := HL.out; omega))
      have qs_a3 := (((hv10).below hd (Nat.le_refl _))).cell0 (some_at0 (show 3 < ls.length by have := HL.out; omega))
      have qs_a4 := (((hv10).below hd (Nat.le_refl _))).cell0 (some_at0 (show 4 < ls.length by have := HL.out; omega))
      go_keep
    case f37 => exact ⟨hd, hE⟩
    case st37 => as_aux_lemma => (rintro u ⟨hd, hE⟩; have hb : Below u.heap.size u (u.alloc (.cells #[.int .i64 0, .slice none 0 0] 25)) := (Below.refl _ _).alloc (Nat.le_refl _) _; exact ⟨hd.trans (hb.mono hd.size), hE.alloc _⟩)
    case step37 =>
    clear hsd
    rintro u5 x5 ⟨hd, hE⟩ K hK
    have hsd := hd.size
    obtain ⟨q5_LB101_0, q5_LB101_1⟩ := LB10.1.below hd (Nat.le_refl _)
    obtain ⟨q5_VB101_0, q5_VB101_1⟩ := VB10.1.below hd (Nat.le_refl _)
    obtain ⟨q5_QB101_0, q5_QB101_1⟩ := QB10.1.below hd (Nat.le_refl _)
    have q5_a0 := (((hv10).below hd (Nat.le_refl _))).cellz (some_at0 (show 0 < ls.length by have := HL.out; omega))
    have q5_a1 := (((hv10).below hd (Nat.le_refl _))).cell0 (some_at0 (show 1 < ls.length by have := HL.out; omega))
    have q5_a2 := (((hv10).below hd (Nat.le_refl _))).cell0 (some_at0 (show 2 < ls.length by have := HL.out; omega))
    have q5_a3 := (((hv10).below hd (Nat.le_refl _))).cell0 (some_at0 (show 3 < ls.length by have := HL.out; omega))
    have q5_a4 := (((hv10).below hd (Nat.le_refl _))).cell0 (some_at0 (show 4 < ls.length by have := HL.out; omega))
    (try dsimp only)
    go_simp
    go_at_call 38
    refine (timesP_c m m n _ _ L V _ ((L10).below hd (Nat.le_refl _)) ((V10).below hd (Nat.le_refl _)) (by omega) (by omega) hm (by omega) (by first | assumption | exact timesT_ok (by omega) _ _ _ | exact addT_ok (by omega) _ _ _ | exact PlaT.sub (by omega) _ _ _ | exact PlaT.sca (by omega) _ _ _ | exact PlaT.one (by omega) _ | exact PlaT.inv (by omega) _ _ | exact hornT_ok (by omega) _ _ _ | exact PlaT.cln (by omega) _ _) (by first | assumption | exact timesT_ok (by omega) _ _ _ | exact addT_ok (by omega) _ _ _ | exact PlaT.sub (by omega) _ _ _ | exact PlaT.sca (by omega) _ _ _ | exact PlaT.one (by omega) _ | exact PlaT.inv (by omega) _ _ | exact hornT_ok (by omega) _ _ _ | exact PlaT.cln (by omega) _ _)).mono ?_
    rintro e v5 ⟨_, rfl, hG, hbG⟩
    obtain ⟨oG, cG, rfl⟩ := hG.shapeN (n := n) (tri_len _ _)
    go_wp2_with fail
    have hsd5 := hbG.size
    have hE := hE.below hbG
    have hG := hG.mono (B' := w10.heap.size) hd.size
    have hd := hd.trans (hbG.mono hd.size)
    obtain ⟨q5n_LB101_0, q5n_LB101_1⟩ := LB10.1.below hd (Nat.le_refl _)
    obtain ⟨q5n_VB101_0, q5n_VB101_1⟩ := VB10.1.below hd (Nat.le_refl _)
    obtain ⟨q5n_QB101_0, q5n_QB101_1⟩ := QB10.1.below hd (Nat.le_refl _)
    have q5n_a0 := (((hv10).below hd (Nat.le_refl _))).cellz (some_at0 (show 0 < ls.length by have := HL.out; omega))
    have q5n_a1 := (((hv10).below hd (Nat.le_refl _))).cell0 (some_at0 (show 1 < ls.length by have := HL.out; omega))
    have q5n_a2 := (((hv10).below hd (Nat.le_refl _))).cell0 (some_at0 (show 2 < ls.length by have := HL.out; omega))
    have q5n_a3 := (((hv10).below hd (Nat.le_refl _))).cell0 (some_at0 (show 3 < ls.length by have := HL.out; omega))
    have q5n_a4 := (((hv10).below hd (Nat.le_refl _))).cell0 (some_at0 (show 4 < ls.length by have := HL.out; omega))
    have hHeld : (fun w' : World => w'.cell? ⟨w6.heap.size, 0, none⟩ = some (.int .i64 m) ∧ w'.cell? ⟨w6.heap.size, 1, none⟩ = some (.slice oL n cL) ∧ w'.cell? ⟨bV, 0, none⟩ = some (.int .i64 m) ∧ w'.cell? ⟨bV, 1, none⟩ = some (.slice oV n cV) ∧ w'.cell? ⟨w9.heap.size, 0, none⟩ = some (.int .i64 m) ∧ w'.cell? ⟨w9.heap.size, 1, none⟩ = some (.slice oQ n cQ) ∧ w'.cell? ⟨bl, fl, none⟩ = some (.int .i64 (at0 ls 0)) ∧ w'.cell? ⟨bl, fl + 1, none⟩ = some (.int .i64 (at0 ls 1)) ∧ w'.cell? ⟨bl, fl + 2, none⟩ = some (.int .i64 (at0 ls 2)) ∧ w'.cell? ⟨bl, fl + 3, none⟩ = some (.int .i64 (at0 ls 3)) ∧ w'.cell? ⟨bl, fl + 4, none⟩ = some (.int .i64 (at0 ls 4))) v5 := by go_keep
    refine hK.out _ _ (FlB (w10.heap.size)) (by rfl) (fun b hb => hb.below hbG (Nat.le_refl _)) (fun _ => hHeld) ?_
    clear hK K hHeld
    try simp only [List.getElem_toArray, List.getElem_cons_zero, List.getElem_cons_succ, Act.put, List.setIfInBounds_toArray, List.set_cons_zero, List.set_cons_succ]
    refine wpFl_step (f := 35) (slot := 14) (c := 24) (Z := (.cells #[.int .i64 0, .slice none 0 0] 25)) (F := fun u => Below (w10.heap.size) w10 u ∧ OwS u (w10.heap.size) (.slice oE n cE) (addT m n (addT m n (scaT m n (at0 ls 0) L) (scaT m n (at0 ls 1) V)) (scaT m n (at0 ls 2) Q)) ∧ OwS u (w10.heap.size) (.slice oG n cG) (timesT m n L V)) (Bx := FlB (w10.heap.size)) rfl rfl (by decide) (by as_aux_lemma => kernel_rfl) (by as_aux_lemma => kernel_rfl) ?al38 ?bx38 ?hs38 ?f38 ?st38 ?step38
    case al38 => as_aux_lemma => (intro u K h; (try dsimp only at h ⊢); go_simp; exact h)
    case bx38 => as_aux_lemma => (rintro u ⟨hd, hE, hG⟩; exact FlB.new hd.size)
    case hs38 => as_aux_lemma =>
      rintro u ⟨hd, hE, hG⟩
      obtain ⟨qs_LB101_0, qs_LB101_1⟩ := LB10.1.below hd (Nat.le_refl _)
      obtain ⟨qs_VB101_0, qs_VB101_1⟩ := VB10.1.below hd (Nat.le_refl _)
      obtain ⟨qs_QB101_0, qs_QB101_1⟩ := QB10.1.below hd (Nat.le_refl _)
      have qs_a0 := (((hv10).below hd (Nat.le_refl _))).cellz (some_at0 (show 0 < ls.length by have := HL.out; omega))
      have qs_a1 := (((hv10).below hd (Nat.le_refl _))).cell0 (some_at0 (show 1 < ls.length by have := HL.out; omega))
      have qs_a2 := (((hv10).below hd (Nat.le_refl _))).cell0 (some_at0 (show 2 < ls.length by have := HL.out; omega))
      have qs_a3 := (((hv10).below hd (Nat.le_refl _))).cell0 (some_at0 (show 3 < ls.length by have := HL.out; omega))
      have qs_a4 := (((hv10).below hd (Nat.le_refl _))).cell0 (some_at0 (show 4 < ls.length by have := HL.out; omega))
      go_keep
    case f38 => exact ⟨hd, hE, hG⟩
    case st38 => as_aux_lemma => (rintro u ⟨hd, hE, hG⟩; have hb : Below u.heap.size u (u.alloc (.cells #[.int .i64 0, .slice none 0 0] 25)) := (Below.refl _ _).alloc (Nat.le_refl _) _; exact ⟨hd.trans (hb.mono hd.size), hE.alloc _, hG.alloc _⟩)
    case step38 =>
    clear hsd
    rintro u6 x6 ⟨hd, hE, hG⟩ K hK
    have hsd := hd.size
    obtain ⟨q6_LB101_0, q6_LB101_1⟩ := LB10.1.below hd (Nat.le_refl _)
    obtain ⟨q6_VB101_0, q6_VB101_1⟩ := VB10.1.below hd (Nat.le_refl _)
    obtain ⟨q6_QB101_0, q6_QB101_1⟩ := QB10.1.below hd (Nat.le_refl _)
    have q6_a0 := (((hv10).below hd (Nat.le_refl _))).cellz (some_at0 (show 0 < ls.length by have := HL.out; omega))
    have q6_a1 := (((hv10).below hd (Nat.le_refl _))).cell0 (some_at0 (show 1 < ls.length by have := HL.out; omega))
    have q6_a2 := (((hv10).below hd (Nat.le_refl _))).cell0 (some_at0 (show 2 < ls.length by have := HL.out; omega))
    have q6_a3 := (((hv10).below hd (Nat.le_refl _))).cell0 (some_at0 (show 3 < ls.length by have := HL.out; omega))
    have q6_a4 := (((hv10).below hd (Nat.le_refl _))).cell0 (some_at0 (show 4 < ls.length by have := HL.out; omega))
    (try dsimp only)
    go_simp
    go_at_call 39
    refine (scaledP_n m (2 * at0 ls 3) n _ (timesT m n L V) _ hG.rd (by omega) (by omega) hm hm' (by first | assumption | exact timesT_ok (by omega) _ _ _ | exact addT_ok (by omega) _ _ _ | exact PlaT.sub (by omega) _ _ _ | exact PlaT.sca (by omega) _ _ _ | exact PlaT.one (by omega) _ | exact PlaT.inv (by omega) _ _ | exact hornT_ok (by omega) _ _ _ | exact PlaT.cln (by omega) _ _) (by omega) (by omega)).mono ?_
    rintro e v6 ⟨_, rfl, hH, hbH⟩
    obtain ⟨oH, cH, rfl⟩ := hH.shapeN (n := n) (tri_len _ _)
    go_wp2_with fail
    have hsd6 := hbH.size
    clear hG
    have hE := hE.below hbH
    have hH := hH.mono (B' := w10.heap.size) hd.size
    have hd := hd.trans (hbH.mono hd.size)
    obtain ⟨q6n_LB101_0, q6n_LB101_1⟩ := LB10.1.below hd (Nat.le_refl _)
    obtain ⟨q6n_VB101_0, q6n_VB101_1⟩ := VB10.1.below hd (Nat.le_refl _)
    obtain ⟨q6n_QB101_0, q6n_QB101_1⟩ := QB10.1.below hd (Nat.le_refl _)
    have q6n_a0 := (((hv10).below hd (Nat.le_refl _))).cellz (some_at0 (show 0 < ls.length by have := HL.out; omega))
    have q6n_a1 := (((hv10).below hd (Nat.le_refl _))).cell0 (some_at0 (show 1 < ls.length by have := HL.out; omega))
    have q6n_a2 := (((hv10).below hd (Nat.le_refl _))).cell0 (some_at0 (show 2 < ls.length by have := HL.out; omega))
    have q6n_a3 := (((hv10).below hd (Nat.le_refl _))).cell0 (some_at0 (show 3 < ls.length by have := HL.out; omega))
    have q6n_a4 := (((hv10).below hd (Nat.le_refl _))).cell0 (some_at0 (show 4 < ls.length by have := HL.out; omega))
    have hHeld : (fun w' : World => w'.cell? ⟨w6.heap.size, 0, none⟩ = some (.int .i64 m) ∧ w'.cell? ⟨w6.heap.size, 1, none⟩ = some (.slice oL n cL) ∧ w'.cell? ⟨bV, 0, none⟩ = some (.int .i64 m) ∧ w'.cell? ⟨bV, 1, none⟩ = some (.slice oV n cV) ∧ w'.cell? ⟨w9.heap.size, 0, none⟩ = some (.int .i64 m) ∧ w'.cell? ⟨w9.heap.size, 1, none⟩ = some (.slice oQ n cQ) ∧ w'.cell? ⟨bl, fl, none⟩ = some (.int .i64 (at0 ls 0)) ∧ w'.cell? ⟨bl, fl + 1, none⟩ = some (.int .i64 (at0 ls 1)) ∧ w'.cell? ⟨bl, fl + 2, none⟩ = some (.int .i64 (at0 ls 2)) ∧ w'.cell? ⟨bl, fl + 3, none⟩ = some (.int .i64 (at0 ls 3)) ∧ w'.cell? ⟨bl, fl + 4, none⟩ = some (.int .i64 (at0 ls 4))) v6 := by go_keep
    refine hK.out _ _ (FlB (w10.heap.size)) (by rfl) (fun b hb => hb.below hbH (Nat.le_refl _)) (fun _ => hHeld) ?_
    clear hK K hHeld
    try simp only [List.getElem_toArray, List.getElem_cons_zero, List.getElem_cons_succ, Act.put, List.setIfInBounds_toArray, List.set_cons_zero, List.set_cons_succ]
    refine wpFl_step (f := 35) (slot := 14) (c := 25) (Z := (.cells #[.int .i64 0, .slice none 0 0] 25)) (F := fun u => Below (w10.heap.size) w10 u ∧ OwS u (w10.heap.size) (.slice oE n cE) (addT m n (addT m n (scaT m n (at0 ls 0) L) (scaT m n (at0 ls 1) V)) (scaT m n (at0 ls 2) Q)) ∧ OwS u (w10.heap.size) (.slice oH n cH) (scaT m n (2 * at0 ls 3) (timesT m n L V))) (Bx := FlB (w10.heap.size)) rfl rfl (by decide) (by as_aux_lemma => kernel_rfl) (by as_aux_lemma => kernel_rfl) ?al39 ?bx39 ?hs39 ?f39 ?st39 ?step39
    case al39 => as_aux_lemma => (intro u K h; (try dsimp only at h ⊢); go_simp; exact h)
    case bx39 => as_aux_lemma => (rintro u ⟨hd, hE, hH⟩; exact FlB.new hd.size)
    case hs39 => as_aux_lemma =>
      rintro u ⟨hd, hE, hH⟩
      obtain ⟨qs_LB101_0, qs_LB101_1⟩ := LB10.1.below hd (Nat.le_refl _)
      obtain ⟨qs_VB101_0, qs_VB101_1⟩ := VB10.1.below hd (Nat.le_refl _)
      obtain ⟨qs_QB101_0, qs_QB101_1⟩ := QB10.1.below hd (Nat.le_refl _)
      have qs_a0 := (((hv10).below hd (Nat.le_refl _))).cellz (some_at0 (show 0 < ls.length by have := HL.out; omega))
      have qs_a1 := (((hv10).below hd (Nat.le_refl _))).cell0 (some_at0 (show 1 < ls.length by have := HL.out; omega))
      have qs_a2 := (((hv10).below hd (Nat.le_refl _))).cell0 (some_at0 (show 2 < ls.length by have := HL.out; omega))
      have qs_a3 := (((hv10).below hd (Nat.le_refl _))).cell0 (some_at0 (show 3 < ls.length by have := HL.out; omega))
      have qs_a4 := (((hv10).below hd (Nat.le_refl _))).cell0 (some_at0 (show 4 < ls.length by have := HL.out; omega))
      go_keep
    case f39 => exact ⟨hd, hE, hH⟩
    case st39 => as_aux_lemma => (rintro u ⟨hd, hE, hH⟩; have hb : Below u.heap.size u (u.alloc (.cells #[.int .i64 0, .slice none 0 0] 25)) := (Below.refl _ _).alloc (Nat.le_refl _) _; exact ⟨hd.trans (hb.mono hd.size), hE.alloc _, hH.alloc _⟩)
    case step39 =>
    clear hsd
    rintro u7 x7 ⟨hd, hE, hH⟩ K hK
    have hsd := hd.size
    obtain ⟨q7_LB101_0, q7_LB101_1⟩ := LB10.1.below hd (Nat.le_refl _)
    obtain ⟨q7_VB101_0, q7_VB101_1⟩ := VB10.1.below hd (Nat.le_refl _)
    obtain ⟨q7_QB101_0, q7_QB101_1⟩ := QB10.1.below hd (Nat.le_refl _)
    have q7_a0 := (((hv10).below hd (Nat.le_refl _))).cellz (some_at0 (show 0 < ls.length by have := HL.out; omega))
    have q7_a1 := (((hv10).below hd (Nat.le_refl _))).cell0 (some_at0 (show 1 < ls.length by have := HL.out; omega))
    have q7_a2 := (((hv10).below hd (Nat.le_refl _))).cell0 (some_at0 (show 2 < ls.length by have := HL.out; omega))
    have q7_a3 := (((hv10).below hd (Nat.le_refl _))).cell0 (some_at0 (show 3 < ls.length by have := HL.out; omega))
    have q7_a4 := (((hv10).below hd (Nat.le_refl _))).cell0 (some_at0 (show 4 < ls.length by have := HL.out; omega))
    (try dsimp only)
    go_simp
    go_at_call 40
    refine (plusP_n m m n _ _ (addT m n (addT m n (scaT m n (at0 ls 0) L) (scaT m n (at0 ls 1) V)) (scaT m n (at0 ls 2) Q)) (scaT m n (2 * at0 ls 3) (timesT m n L V)) _ hE.rd hH.rd (by omega) (by omega) hm hm' (by first | assumption | exact timesT_ok (by omega) _ _ _ | exact addT_ok (by omega) _ _ _ | exact PlaT.sub (by omega) _ _ _ | exact PlaT.sca (by omega) _ _ _ | exact PlaT.one (by omega) _ | exact PlaT.inv (by omega) _ _ | exact hornT_ok (by omega) _ _ _ | exact PlaT.cln (by omega) _ _) (by first | assumption | exact timesT_ok (by omega) _ _ _ | exact addT_ok (by omega) _ _ _ | exact PlaT.sub (by omega) _ _ _ | exact PlaT.sca (by omega) _ _ _ | exact PlaT.one (by omega) _ | exact PlaT.inv (by omega) _ _ | exact hornT_ok (by omega) _ _ _ | exact PlaT.cln (by omega) _ _)).mono ?_
    rintro e v7 ⟨_, rfl, hI, hbI⟩
    obtain ⟨oI, cI, rfl⟩ := hI.shapeN (n := n) (tri_len _ _)
    go_wp2_with fail
    have hsd7 := hbI.size
    clear hE
    clear hH
    have hI := hI.mono (B' := w10.heap.size) hd.size
    have hd := hd.trans (hbI.mono hd.size)
    obtain ⟨q7n_LB101_0, q7n_LB101_1⟩ := LB10.1.below hd (Nat.le_refl _)
    obtain ⟨q7n_VB101_0, q7n_VB101_1⟩ := VB10.1.below hd (Nat.le_refl _)
    obtain ⟨q7n_QB101_0, q7n_QB101_1⟩ := QB10.1.below hd (Nat.le_refl _)
    have q7n_a0 := (((hv10).below hd (Nat.le_refl _))).cellz (some_at0 (show 0 < ls.length by have := HL.out; omega))
    have q7n_a1 := (((hv10).below hd (Nat.le_refl _))).cell0 (some_at0 (show 1 < ls.length by have := HL.out; omega))
    have q7n_a2 := (((hv10).below hd (Nat.le_refl _))).cell0 (some_at0 (show 2 < ls.length by have := HL.out; omega))
    have q7n_a3 := (((hv10).below hd (Nat.le_refl _))).cell0 (some_at0 (show 3 < ls.length by have := HL.out; omega))
    have q7n_a4 := (((hv10).below hd (Nat.le_refl _))).cell0 (some_at0 (show 4 < ls.length by have := HL.out; omega))
    have hHeld : (fun w' : World => w'.cell? ⟨w6.heap.size, 0, none⟩ = some (.int .i64 m) ∧ w'.cell? ⟨w6.heap.size, 1, none⟩ = some (.slice oL n cL) ∧ w'.cell? ⟨bV, 0, none⟩ = some (.int .i64 m) ∧ w'.cell? ⟨bV, 1, none⟩ = some (.slice oV n cV) ∧ w'.cell? ⟨w9.heap.size, 0, none⟩ = some (.int .i64 m) ∧ w'.cell? ⟨w9.heap.size, 1, none⟩ = some (.slice oQ n cQ) ∧ w'.cell? ⟨bl, fl, none⟩ = some (.int .i64 (at0 ls 0)) ∧ w'.cell? ⟨bl, fl + 1, none⟩ = some (.int .i64 (at0 ls 1)) ∧ w'.cell? ⟨bl, fl + 2, none⟩ = some (.int .i64 (at0 ls 2)) ∧ w'.cell? ⟨bl, fl + 3, none⟩ = some (.int .i64 (at0 ls 3)) ∧ w'.cell? ⟨bl, fl + 4, none⟩ = some (.int .i64 (at0 ls 4))) v7 := by go_keep
    refine hK.out _ _ (FlB (w10.heap.size)) (by rfl) (fun b hb => hb.below hbI (Nat.le_refl _)) (fun _ => hHeld) ?_
    clear hK K hHeld
    try simp only [List.getElem_toArray, List.getElem_cons_zero, List.getElem_cons_succ, Act.put, List.setIfInBounds_toArray, List.set_cons_zero, List.set_cons_succ]
    refine wpFl_step (f := 35) (slot := 14) (c := 28) (Z := (.cells #[.int .i64 0, .slice none 0 0] 25)) (F := fun u => Below (w10.heap.size) w10 u ∧ OwS u (w10.heap.size) (.slice oI n cI) (addT m n (addT m n (addT m n (scaT m n (at0 ls 0) L) (scaT m n (at0 ls 1) V)) (scaT m n (at0 ls 2) Q)) (scaT m n (2 * at0 ls 3) (timesT m n L V)))) (Bx := FlB (w10.heap.size)) rfl rfl (by decide) (by as_aux_lemma => kernel_rfl) (by as_aux_lemma => kernel_rfl) ?al40 ?bx40 ?hs40 ?f40 ?st40 ?step40
    case al40 => as_aux_lemma => (intro u K h; (try dsimp only at h ⊢); go_simp; exact h)
    case bx40 => as_aux_lemma => (rintro u ⟨hd, hI⟩; exact FlB.new hd.size)
    case hs40 => as_aux_lemma =>
      rintro u ⟨hd, hI⟩
      obtain ⟨qs_LB101_0, qs_LB101_1⟩ := LB10.1.below hd (Nat.le_refl _)
      obtain ⟨qs_VB101_0, qs_VB101_1⟩ := VB10.1.below hd (Nat.le_refl _)
      obtain ⟨qs_QB101_0, qs_QB101_1⟩ := QB10.1.below hd (Nat.le_refl _)
      have qs_a0 := (((hv10).below hd (Nat.le_refl _))).cellz (some_at0 (show 0 < ls.length by have := HL.out; omega))
      have qs_a1 := (((hv10).below hd (Nat.le_refl _))).cell0 (some_at0 (show 1 < ls.length by have := HL.out; omega))
      have qs_a2 := (((hv10).below hd (Nat.le_refl _))).cell0 (some_at0 (show 2 < ls.length by have := HL.out; omega))
      have qs_a3 := (((hv10).below hd (Nat.le_refl _))).cell0 (some_at0 (show 3 < ls.length by have := HL.out; omega))
      have qs_a4 := (((hv10).below hd (Nat.le_refl _))).cell0 (some_at0 (show 4 < ls.length by have := HL.out; omega))
      go_keep
    case f40 => exact ⟨hd, hI⟩
    case st40 => as_aux_lemma => (rintro u ⟨hd, hI⟩; have hb : Below u.heap.size u (u.alloc (.cells #[.int .i64 0, .slice none 0 0] 25)) := (Below.refl _ _).alloc (Nat.le_refl _) _; exact ⟨hd.trans (hb.mono hd.size), hI.alloc _⟩)
    case step40 =>
    clear hsd
    rintro u8 x8 ⟨hd, hI⟩ K hK
    have hsd := hd.size
    obtain ⟨q8_LB101_0, q8_LB101_1⟩ := LB10.1.below hd (Nat.le_refl _)
    obtain ⟨q8_VB101_0, q8_VB101_1⟩ := VB10.1.below hd (Nat.le_refl _)
    obtain ⟨q8_QB101_0, q8_QB101_1⟩ := QB10.1.below hd (Nat.le_refl _)
    have q8_a0 := (((hv10).below hd (Nat.le_refl _))).cellz (some_at0 (show 0 < ls.length by have := HL.out; omega))
    have q8_a1 := (((hv10).below hd (Nat.le_refl _))).cell0 (some_at0 (show 1 < ls.length by have := HL.out; omega))
    have q8_a2 := (((hv10).below hd (Nat.le_refl _))).cell0 (some_at0 (show 2 < ls.length by have := HL.out; omega))
    have q8_a3 := (((hv10).below hd (Nat.le_refl _))).cell0 (some_at0 (show 3 < ls.length by have := HL.out; omega))
    have q8_a4 := (((hv10).below hd (Nat.le_refl _))).cell0 (some_at0 (show 4 < ls.length by have := HL.out; omega))
    (try dsimp only)
    go_simp
    go_at_call 38
    refine (timesP_c m m n _ _ Q V _ ((Q10).below hd (Nat.le_refl _)) ((V10).below hd (Nat.le_refl _)) (by omega) (by omega) hm (by omega) (by first | assumption | exact timesT_ok (by omega) _ _ _ | exact addT_ok (by omega) _ _ _ | exact PlaT.sub (by omega) _ _ _ | exact PlaT.sca (by omega) _ _ _ | exact PlaT.one (by omega) _ | exact PlaT.inv (by omega) _ _ | exact hornT_ok (by omega) _ _ _ | exact PlaT.cln (by omega) _ _) (by first | assumption | exact timesT_ok (by omega) _ _ _ | exact addT_ok (by omega) _ _ _ | exact PlaT.sub (by omega) _ _ _ | exact PlaT.sca (by omega) _ _ _ | exact PlaT.one (by omega) _ | exact PlaT.inv (by omega) _ _ | exact hornT_ok (by omega) _ _ _ | exact PlaT.cln (by omega) _ _)).mono ?_
    rintro e v8 ⟨_, rfl, hJ, hbJ⟩
    obtain ⟨oJ, cJ, rfl⟩ := hJ.shapeN (n := n) (tri_len _ _)
    go_wp2_with fail
    have hsd8 := hbJ.size
    have hI := hI.below hbJ
    have hJ := hJ.mono (B' := w10.heap.size) hd.size
    have hd := hd.trans (hbJ.mono hd.size)
    obtain ⟨q8n_LB101_0, q8n_LB101_1⟩ := LB10.1.below hd (Nat.le_refl _)
    obtain ⟨q8n_VB101_0, q8n_VB101_1⟩ := VB10.1.below hd (Nat.le_refl _)
    obtain ⟨q8n_QB101_0, q8n_QB101_1⟩ := QB10.1.below hd (Nat.le_refl _)
    have q8n_a0 := (((hv10).below hd (Nat.le_refl _))).cellz (some_at0 (show 0 < ls.length by have := HL.out; omega))
    have q8n_a1 := (((hv10).below hd (Nat.le_refl _))).cell0 (some_at0 (show 1 < ls.length by have := HL.out; omega))
    have q8n_a2 := (((hv10).below hd (Nat.le_refl _))).cell0 (some_at0 (show 2 < ls.length by have := HL.out; omega))
    have q8n_a3 := (((hv10).below hd (Nat.le_refl _))).cell0 (some_at0 (show 3 < ls.length by have := HL.out; omega))
    have q8n_a4 := (((hv10).below hd (Nat.le_refl _))).cell0 (some_at0 (show 4 < ls.length by have := HL.out; omega))
    have hHeld : (fun w' : World => w'.cell? ⟨w6.heap.size, 0, none⟩ = some (.int .i64 m) ∧ w'.cell? ⟨w6.heap.size, 1, none⟩ = some (.slice oL n cL) ∧ w'.cell? ⟨bV, 0, none⟩ = some (.int .i64 m) ∧ w'.cell? ⟨bV, 1, none⟩ = some (.slice oV n cV) ∧ w'.cell? ⟨w9.heap.size, 0, none⟩ = some (.int .i64 m) ∧ w'.cell? ⟨w9.heap.size, 1, none⟩ = some (.slice oQ n cQ) ∧ w'.cell? ⟨bl, fl, none⟩ = some (.int .i64 (at0 ls 0)) ∧ w'.cell? ⟨bl, fl + 1, none⟩ = some (.int .i64 (at0 ls 1)) ∧ w'.cell? ⟨bl, fl + 2, none⟩ = some (.int .i64 (at0 ls 2)) ∧ w'.cell? ⟨bl, fl + 3, none⟩ = some (.int .i64 (at0 ls 3)) ∧ w'.cell? ⟨bl, fl + 4, none⟩ = some (.int .i64 (at0 ls 4))) v8 := by go_keep
    refine hK.out _ _ (FlB (w10.heap.size)) (by rfl) (fun b hb => hb.below hbJ (Nat.le_refl _)) (fun _ => hHeld) ?_
    clear hK K hHeld
    try simp only [List.getElem_toArray, List.getElem_cons_zero, List.getElem_cons_succ, Act.put, List.setIfInBounds_toArray, List.set_cons_zero, List.set_cons_succ]
    refine wpFl_step (f := 35) (slot := 14) (c := 33) (Z := (.cells #[.int .i64 0, .slice none 0 0] 25)) (F := fun u => Below (w10.heap.size) w10 u ∧ OwS u (w10.heap.size) (.slice oI n cI) (addT m n (addT m n (addT m n (scaT m n (at0 ls 0) L) (scaT m n (at0 ls 1) V)) (scaT m n (at0 ls 2) Q)) (scaT m n (2 * at0 ls 3) (timesT m n L V))) ∧ OwS u (w10.heap.size) (.slice oJ n cJ) (timesT m n Q V)) (Bx := FlB (w10.heap.size)) rfl rfl (by decide) (by as_aux_lemma => kernel_rfl) (by as_aux_lemma => kernel_rfl) ?al41 ?bx41 ?hs41 ?f41 ?st41 ?step41
    case al41 => as_aux_lemma => (intro u K h; (try dsimp only at h ⊢); go_simp; exact h)
    case bx41 => as_aux_lemma => (rintro u ⟨hd, hI, hJ⟩; exact FlB.new hd.size)
    case hs41 => as_aux_lemma =>
      rintro u ⟨hd, hI, hJ⟩
      obtain ⟨qs_LB101_0, qs_LB101_1⟩ := LB10.1.below hd (Nat.le_refl _)
      obtain ⟨qs_VB101_0, qs_VB101_1⟩ := VB10.1.below hd (Nat.le_refl _)
      obtain ⟨qs_QB101_0, qs_QB101_1⟩ := QB10.1.below hd (Nat.le_refl _)
      have qs_a0 := (((hv10).below hd (Nat.le_refl _))).cellz (some_at0 (show 0 < ls.length by have := HL.out; omega))
      have qs_a1 := (((hv10).below hd (Nat.le_refl _))).cell0 (some_at0 (show 1 < ls.length by have := HL.out; omega))
      have qs_a2 := (((hv10).below hd (Nat.le_refl _))).cell0 (some_at0 (show 2 < ls.length by have := HL.out; omega))
      have qs_a3 := (((hv10).below hd (Nat.le_refl _))).cell0 (some_at0 (show 3 < ls.length by have := HL.out; omega))
      have qs_a4 := (((hv10).below hd (Nat.le_refl _))).cell0 (some_at0 (show 4 < ls.length by have := HL.out; omega))
      go_keep
    case f41 => exact ⟨hd, hI, hJ⟩
    case st41 => as_aux_lemma => (rintro u ⟨hd, hI, hJ⟩; have hb : Below u.heap.size u (u.alloc (.cells #[.int .i64 0, .slice none 0 0] 25)) := (Below.refl _ _).alloc (Nat.le_refl _) _; exact ⟨hd.trans (hb.mono hd.size), hI.alloc _, hJ.alloc _⟩)
    case step41 =>
    clear hsd
    rintro u9 x9 ⟨hd, hI, hJ⟩ K hK
    have hsd := hd.size
    obtain ⟨q9_LB101_0, q9_LB101_1⟩ := LB10.1.below hd (Nat.le_refl _)
    obtain ⟨q9_VB101_0, q9_VB101_1⟩ := VB10.1.below hd (Nat.le_refl _)
    obtain ⟨q9_QB101_0, q9_QB101_1⟩ := QB10.1.below hd (Nat.le_refl _)
    have q9_a0 := (((hv10).below hd (Nat.le_refl _))).cellz (some_at0 (show 0 < ls.length by have := HL.out; omega))
    have q9_a1 := (((hv10).below hd (Nat.le_refl _))).cell0 (some_at0 (show 1 < ls.length by have := HL.out; omega))
    have q9_a2 := (((hv10).below hd (Nat.le_refl _))).cell0 (some_at0 (show 2 < ls.length by have := HL.out; omega))
    have q9_a3 := (((hv10).below hd (Nat.le_refl _))).cell0 (some_at0 (show 3 < ls.length by have := HL.out; omega))
    have q9_a4 := (((hv10).below hd (Nat.le_refl _))).cell0 (some_at0 (show 4 < ls.length by have := HL.out; omega))
    (try dsimp only)
    go_simp
    go_at_call 39
    refine (scaledP_n m (3 * at0 ls 4) n _ (timesT m n Q V) _ hJ.rd (by omega) (by omega) hm hm' (by first | assumption | exact timesT_ok (by omega) _ _ _ | exact addT_ok (by omega) _ _ _ | exact PlaT.sub (by omega) _ _ _ | exact PlaT.sca (by omega) _ _ _ | exact PlaT.one (by omega) _ | exact PlaT.inv (by omega) _ _ | exact hornT_ok (by omega) _ _ _ | exact PlaT.cln (by omega) _ _) (by omega) (by omega)).mono ?_
    rintro e v9 ⟨_, rfl, hM, hbM⟩
    obtain ⟨oM, cM, rfl⟩ := hM.shapeN (n := n) (tri_len _ _)
    go_wp2_with fail
    have hsd9 := hbM.size
    clear hJ
    have hI := hI.below hbM
    have hM := hM.mono (B' := w10.heap.size) hd.size
    have hd := hd.trans (hbM.mono hd.size)
    obtain ⟨q9n_LB101_0, q9n_LB101_1⟩ := LB10.1.below hd (Nat.le_refl _)
    obtain ⟨q9n_VB101_0, q9n_VB101_1⟩ := VB10.1.below hd (Nat.le_refl _)
    obtain ⟨q9n_QB101_0, q9n_QB101_1⟩ := QB10.1.below hd (Nat.le_refl _)
    have q9n_a0 := (((hv10).below hd (Nat.le_refl _))).cellz (some_at0 (show 0 < ls.length by have := HL.out; omega))
    have q9n_a1 := (((hv10).below hd (Nat.le_refl _))).cell0 (some_at0 (show 1 < ls.length by have := HL.out; omega))
    have q9n_a2 := (((hv10).below hd (Nat.le_refl _))).cell0 (some_at0 (show 2 < ls.length by have := HL.out; omega))
    have q9n_a3 := (((hv10).below hd (Nat.le_refl _))).cell0 (some_at0 (show 3 < ls.length by have := HL.out; omega))
    have q9n_a4 := (((hv10).below hd (Nat.le_refl _))).cell0 (some_at0 (show 4 < ls.length by have := HL.out; omega))
    have hHeld : (fun w' : World => w'.cell? ⟨w6.heap.size, 0, none⟩ = some (.int .i64 m) ∧ w'.cell? ⟨w6.heap.size, 1, none⟩ = some (.slice oL n cL) ∧ w'.cell? ⟨bV, 0, none⟩ = some (.int .i64 m) ∧ w'.cell? ⟨bV, 1, none⟩ = some (.slice oV n cV) ∧ w'.cell? ⟨w9.heap.size, 0, none⟩ = some (.int .i64 m) ∧ w'.cell? ⟨w9.heap.size, 1, none⟩ = some (.slice oQ n cQ) ∧ w'.cell? ⟨bl, fl, none⟩ = some (.int .i64 (at0 ls 0)) ∧ w'.cell? ⟨bl, fl + 1, none⟩ = some (.int .i64 (at0 ls 1)) ∧ w'.cell? ⟨bl, fl + 2, none⟩ = some (.int .i64 (at0 ls 2)) ∧ w'.cell? ⟨bl, fl + 3, none⟩ = some (.int .i64 (at0 ls 3)) ∧ w'.cell? ⟨bl, fl + 4, none⟩ = some (.int .i64 (at0 ls 4))) v9 := by go_keep
    refine hK.out _ _ (FlB (w10.heap.size)) (by rfl) (fun b hb => hb.below hbM (Nat.le_refl _)) (fun _ => hHeld) ?_
    clear hK K hHeld
    try simp only [List.getElem_toArray, List.getElem_cons_zero, List.getElem_cons_succ, Act.put, List.setIfInBounds_toArray, List.set_cons_zero, List.set_cons_succ]
    refine wpFl_step (f := 35) (slot := 14) (c := 34) (Z := (.cells #[.int .i64 0, .slice none 0 0] 25)) (F := fun u => Below (w10.heap.size) w10 u ∧ OwS u (w10.heap.size) (.slice oI n cI) (addT m n (addT m n (addT m n (scaT m n (at0 ls 0) L) (scaT m n (at0 ls 1) V)) (scaT m n (at0 ls 2) Q)) (scaT m n (2 * at0 ls 3) (timesT m n L V))) ∧ OwS u (w10.heap.size) (.slice oM n cM) (scaT m n (3 * at0 ls 4) (timesT m n Q V))) (Bx := FlB (w10.heap.size)) rfl rfl (by decide) (by as_aux_lemma => kernel_rfl) (by as_aux_lemma => kernel_rfl) ?al42 ?bx42 ?hs42 ?f42 ?st42 ?step42
    case al42 => as_aux_lemma => (intro u K h; (try dsimp only at h ⊢); go_simp; exact h)
    case bx42 => as_aux_lemma => (rintro u ⟨hd, hI, hM⟩; exact FlB.new hd.size)
    case hs42 => as_aux_lemma =>
      rintro u ⟨hd, hI, hM⟩
      obtain ⟨qs_LB101_0, qs_LB101_1⟩ := LB10.1.below hd (Nat.le_refl _)
      obtain ⟨qs_VB101_0, qs_VB101_1⟩ := VB10.1.below hd (Nat.le_refl _)
      obtain ⟨qs_QB101_0, qs_QB101_1⟩ := QB10.1.below hd (Nat.le_refl _)
      have qs_a0 := (((hv10).below hd (Nat.le_refl _))).cellz (some_at0 (show 0 < ls.length by have := HL.out; omega))
      have qs_a1 := (((hv10).below hd (Nat.le_refl _))).cell0 (some_at0 (show 1 < ls.length by have := HL.out; omega))
      have qs_a2 := (((hv10).below hd (Nat.le_refl _))).cell0 (some_at0 (show 2 < ls.length by have := HL.out; omega))
      have qs_a3 := (((hv10).below hd (Nat.le_refl _))).cell0 (some_at0 (show 3 < ls.length by have := HL.out; omega))
      have qs_a4 := (((hv10).below hd (Nat.le_refl _))).cell0 (some_at0 (show 4 < ls.length by have := HL.out; omega))
      go_keep
    case f42 => exact ⟨hd, hI, hM⟩
    case st42 => as_aux_lemma => (rintro u ⟨hd, hI, hM⟩; have hb : Below u.heap.size u (u.alloc (.cells #[.int .i64 0, .slice none 0 0] 25)) := (Below.refl _ _).alloc (Nat.le_refl _) _; exact ⟨hd.trans (hb.mono hd.size), hI.alloc _, hM.alloc _⟩)
    case step42 =>
    clear hsd
    rintro u10 x10 ⟨hd, hI, hM⟩ K hK
    have hsd := hd.size
    obtain ⟨q10_LB101_0, q10_LB101_1⟩ := LB10.1.below hd (Nat.le_refl _)
    obtain ⟨q10_VB101_0, q10_VB101_1⟩ := VB10.1.below hd (Nat.le_refl _)
    obtain ⟨q10_QB101_0, q10_QB101_1⟩ := QB10.1.below hd (Nat.le_refl _)
    have q10_a0 := (((hv10).below hd (Nat.le_refl _))).cellz (some_at0 (show 0 < ls.length by have := HL.out; omega))
    have q10_a1 := (((hv10).below hd (Nat.le_refl _))).cell0 (some_at0 (show 1 < ls.length by have := HL.out; omega))
    have q10_a2 := (((hv10).below hd (Nat.le_refl _))).cell0 (some_at0 (show 2 < ls.length by have := HL.out; omega))
    have q10_a3 := (((hv10).below hd (Nat.le_refl _))).cell0 (some_at0 (show 3 < ls.length by have := HL.out; omega))
    have q10_a4 := (((hv10).below hd (Nat.le_refl _))).cell0 (some_at0 (show 4 < ls.length by have := HL.out; omega))
    (try dsimp only)
    go_simp
    go_at_call 40
    refine (plusP_n m m n _ _ (addT m n (addT m n (addT m n (scaT m n (at0 ls 0) L) (scaT m n (at0 ls 1) V)) (scaT m n (at0 ls 2) Q)) (scaT m n (2 * at0 ls 3) (timesT m n L V))) (scaT m n (3 * at0 ls 4) (timesT m n Q V)) _ hI.rd hM.rd (by omega) (by omega) hm hm' (by first | assumption | exact timesT_ok (by omega) _ _ _ | exact addT_ok (by omega) _ _ _ | exact PlaT.sub (by omega) _ _ _ | exact PlaT.sca (by omega) _ _ _ | exact PlaT.one (by omega) _ | exact PlaT.inv (by omega) _ _ | exact hornT_ok (by omega) _ _ _ | exact PlaT.cln (by omega) _ _) (by first | assumption | exact timesT_ok (by omega) _ _ _ | exact addT_ok (by omega) _ _ _ | exact PlaT.sub (by omega) _ _ _ | exact PlaT.sca (by omega) _ _ _ | exact PlaT.one (by omega) _ | exact PlaT.inv (by omega) _ _ | exact hornT_ok (by omega) _ _ _ | exact PlaT.cln (by omega) _ _)).mono ?_
    rintro e v10 ⟨_, rfl, hO, hbO⟩
    obtain ⟨oO, cO, rfl⟩ := hO.shapeN (n := n) (tri_len _ _)
    go_wp2_with fail
    have hsd10 := hbO.size
    have hrO := hO
    clear hI
    clear hM
    have hO := hO.mono (B' := w10.heap.size) hd.size
    have hd := hd.trans (hbO.mono hd.size)
    obtain ⟨q10n_LB101_0, q10n_LB101_1⟩ := LB10.1.below hd (Nat.le_refl _)
    obtain ⟨q10n_VB101_0, q10n_VB101_1⟩ := VB10.1.below hd (Nat.le_refl _)
    obtain ⟨q10n_QB101_0, q10n_QB101_1⟩ := QB10.1.below hd (Nat.le_refl _)
    have q10n_a0 := (((hv10).below hd (Nat.le_refl _))).cellz (some_at0 (show 0 < ls.length by have := HL.out; omega))
    have q10n_a1 := (((hv10).below hd (Nat.le_refl _))).cell0 (some_at0 (show 1 < ls.length by have := HL.out; omega))
    have q10n_a2 := (((hv10).below hd (Nat.le_refl _))).cell0 (some_at0 (show 2 < ls.length by have := HL.out; omega))
    have q10n_a3 := (((hv10).below hd (Nat.le_refl _))).cell0 (some_at0 (show 3 < ls.length by have := HL.out; omega))
    have q10n_a4 := (((hv10).below hd (Nat.le_refl _))).cell0 (some_at0 (show 4 < ls.length by have := HL.out; omega))
    have hHeld : (fun w' : World => w'.cell? ⟨w6.heap.size, 0, none⟩ = some (.int .i64 m) ∧ w'.cell? ⟨w6.heap.size, 1, none⟩ = some (.slice oL n cL) ∧ w'.cell? ⟨bV, 0, none⟩ = some (.int .i64 m) ∧ w'.cell? ⟨bV, 1, none⟩ = some (.slice oV n cV) ∧ w'.cell? ⟨w9.heap.size, 0, none⟩ = some (.int .i64 m) ∧ w'.cell? ⟨w9.heap.size, 1, none⟩ = some (.slice oQ n cQ) ∧ w'.cell? ⟨bl, fl, none⟩ = some (.int .i64 (at0 ls 0)) ∧ w'.cell? ⟨bl, fl + 1, none⟩ = some (.int .i64 (at0 ls 1)) ∧ w'.cell? ⟨bl, fl + 2, none⟩ = some (.int .i64 (at0 ls 2)) ∧ w'.cell? ⟨bl, fl + 3, none⟩ = some (.int .i64 (at0 ls 3)) ∧ w'.cell? ⟨bl, fl + 4, none⟩ = some (.int .i64 (at0 ls 4))) v10 := by go_keep
    refine hK.out _ _ (FlE (w10.heap.size) (fun w => RdT w (.slice oO n cO) (addT m n (addT m n (addT m n (addT m n (scaT m n (at0 ls 0) L) (scaT m n (at0 ls 1) V)) (scaT m n (at0 ls 2) Q)) (scaT m n (2 * at0 ls 3) (timesT m n L V))) (scaT m n (3 * at0 ls 4) (timesT m n Q V))))) (by rfl) (fun b hb => ⟨hb.below hbO (Nat.le_refl _), hrO.flOld hb.lt⟩) (fun _ => hHeld) ?_
    clear hK K hHeld
    try simp only [List.getElem_toArray, List.getElem_cons_zero, List.getElem_cons_succ, Act.put, List.setIfInBounds_toArray, List.set_cons_zero, List.set_cons_succ]
    clear hsd
    have hsd := hd.size
    refine wpFl_end (f := 35) (Z := (.cells #[.int .i64 0, .slice none 0 0] 25)) (F := fun u => Below (w10.heap.size) w10 u ∧ OwS u (w10.heap.size) (.slice oO n cO) (addT m n (addT m n (addT m n (addT m n (scaT m n (at0 ls 0) L) (scaT m n (at0 ls 1) V)) (scaT m n (at0 ls 2) Q)) (scaT m n (2 * at0 ls 3) (timesT m n L V))) (scaT m n (3 * at0 ls 4) (timesT m n Q V)))) rfl (by as_aux_lemma => kernel_rfl) ?al43 ?bx43 ?hs43 ?f43 ?st43 ?H43
    case al43 => as_aux_lemma => (intro u K h; (try dsimp only at h ⊢); go_simp; exact h)
    case bx43 => as_aux_lemma => (rintro u ⟨hd, hO⟩; exact ⟨FlB.new hd.size, hO.flNew _⟩)
    case hs43 => as_aux_lemma =>
      rintro u ⟨hd, hO⟩
      obtain ⟨qs_LB101_0, qs_LB101_1⟩ := LB10.1.below hd (Nat.le_refl _)
      obtain ⟨qs_VB101_0, qs_VB101_1⟩ := VB10.1.below hd (Nat.le_refl _)
      obtain ⟨qs_QB101_0, qs_QB101_1⟩ := QB10.1.below hd (Nat.le_refl _)
      have qs_a0 := (((hv10).below hd (Nat.le_refl _))).cellz (some_at0 (show 0 < ls.length by have := HL.out; omega))
      have qs_a1 := (((hv10).below hd (Nat.le_refl _))).cell0 (some_at0 (show 1 < ls.length by have := HL.out; omega))
      have qs_a2 := (((hv10).below hd (Nat.le_refl _))).cell0 (some_at0 (show 2 < ls.length by have := HL.out; omega))
      have qs_a3 := (((hv10).below hd (Nat.le_refl _))).cell0 (some_at0 (show 3 < ls.length by have := HL.out; omega))
      have qs_a4 := (((hv10).below hd (Nat.le_refl _))).cell0 (some_at0 (show 4 < ls.length by have := HL.out; omega))
      go_keep
    case f43 => exact ⟨hd, hO⟩
    case st43 => as_aux_lemma => (rintro u ⟨hd, hO⟩; have hb : Below u.heap.size u (u.alloc (.cells #[.int .i64 0, .slice none 0 0] 25)) := (Below.refl _ _).alloc (Nat.le_refl _) _; exact ⟨hd.trans (hb.mono hd.size), hO.alloc _⟩)
    case H43 =>
    rintro u b ⟨hd, hO⟩ ⟨hB, hP⟩
    obtain ⟨⟨z0, z1⟩, zf⟩ := id hB.1
    (try dsimp only)
    refine wpAnyK_oneL (i := 36) rfl (by as_aux_lemma => kernel_rfl) (fun K hK => ?_)
    go_simp
    (try go_wp2_with fail)
    refine hK.out _ _ (fun h => absurd h (by decide)) ?_
    clear hK K
    try simp only [List.getElem_toArray, List.getElem_cons_zero, List.getElem_cons_succ, Act.put, List.setIfInBounds_toArray, List.set_cons_zero, List.set_cons_succ]
    refine wpAnyK_done (by as_aux_lemma => kernel_rfl) ?_ _
    go_wp2_with fail
    go_meet
    exact ⟨b, oO, cO, rfl, hB.1.put _ _, hP _ _, (hd.setCell hB.2 _).setCell hB.2 _⟩
  case rest =>
  obtain ⟨w11, rfl⟩ : ∃ u, u = wc := ⟨_, rfl⟩
  obtain ⟨bT, oT, cT, rfl, RbT, hbT, hb⟩ := hcut
  obtain ⟨T, hT_⟩ : ∃ T, T = (addT m n (addT m n (addT m n (addT m n (scaT m n (at0 ls 0) L) (scaT m n (at0 ls 1) V)) (scaT m n (at0 ls 2) Q)) (scaT m n (2 * at0 ls 3) (timesT m n L V))) (scaT m n (3 * at0 ls 4) (timesT m n Q V))) := ⟨_, rfl⟩
  rw [← hT_] at hbT
  have HT : PlaT m n T := by rw [hT_]; exact (by first | assumption | exact timesT_ok (by omega) _ _ _ | exact addT_ok (by omega) _ _ _ | exact PlaT.sub (by omega) _ _ _ | exact PlaT.sca (by omega) _ _ _ | exact PlaT.one (by omega) _ | exact PlaT.inv (by omega) _ _ | exact hornT_ok (by omega) _ _ _ | exact PlaT.cln (by omega) _ _)
  have HTd := Lib.hid hT_
  clear hT_
  (have R11 := R10.below hb (Nat.le_refl _); have hv11 := hv10.below hb (Nat.le_refl _); have CW11 := CW10.below hb (Nat.le_refl _); have X11 := X10.below hb (Nat.le_refl _); have Y11 := Y10.below hb (Nat.le_refl _); have CB11 := CB10.below hb (Nat.le_refl _); have XB11 := XB10.below hb (Nat.le_refl _); have YB11 := YB10.below hb (Nat.le_refl _); have L11 := L10.below hb (Nat.le_refl _); have LB11 := LB10.below hb (Nat.le_refl _); have V11 := V10.below hb (Nat.le_refl _); have VB11 := VB10.below hb (Nat.le_refl _); have Q11 := Q10.below hb (Nat.le_refl _); have QB11 := QB10.below hb (Nat.le_refl _); have B11 := B10.trans (hb.mono B10.size); clear R10 hv10 CW10 X10 Y10 CB10 XB10 YB10 L10 LB10 V10 VB10 Q10 QB10 B10)
  clear hb
  have TB11 := RbT
  have T11 := hbT
  clear RbT hbT
  have lT := TB11.1.lt
  have lQ11 := QB11.1.lt
  have lL11 := LB11.1.lt
  go_wp2_with fail
  go_cut [15] from 85 to 106 (fun s u => ∃ (b : Nat) (o : Option Addr) (c : Nat), s = .pointer (some ⟨b, 0, none⟩) ∧ RB2 u b (.int .i64 m) (.slice o n c) ∧ RdT u (.slice o n c) (addT m n (addT m n (addT m n (oneT m n) (scaT m n (at0 ls 1) L)) (scaT m n (at0 ls 3) Q)) (scaT m n (at0 ls 4) (timesT m n Q L))) ∧ Below w11.heap.size w11 u)
  case first =>
    as_aux_lemma =>
    have hd : Below w11.heap.size w11 w11.drew := (Below.refl _ _).drew
    have hsd := hd.size
    obtain ⟨qz_LB111_0, qz_LB111_1⟩ := LB11.1.below hd (Nat.le_refl _)
    obtain ⟨qz_QB111_0, qz_QB111_1⟩ := QB11.1.below hd (Nat.le_refl _)
    have qz_a1 := (((hv11).below hd (Nat.le_refl _))).cell0 (some_at0 (show 1 < ls.length by have := HL.out; omega))
    have qz_a3 := (((hv11).below hd (Nat.le_refl _))).cell0 (some_at0 (show 3 < ls.length by have := HL.out; omega))
    have qz_a4 := (((hv11).below hd (Nat.le_refl _))).cell0 (some_at0 (show 4 < ls.length by have := HL.out; omega))
    refine wp_region_K (S := fun w' => w'.cell? ⟨w6.heap.size, 0, none⟩ = some (.int .i64 m) ∧ w'.cell? ⟨w6.heap.size, 1, none⟩ = some (.slice oL n cL) ∧ w'.cell? ⟨w9.heap.size, 0, none⟩ = some (.int .i64 m) ∧ w'.cell? ⟨w9.heap.size, 1, none⟩ = some (.slice oQ n cQ) ∧ w'.cell? ⟨bl, fl + 1, none⟩ = some (.int .i64 (at0 ls 1)) ∧ w'.cell? ⟨bl, fl + 3, none⟩ = some (.int .i64 (at0 ls 3)) ∧ w'.cell? ⟨bl, fl + 4, none⟩ = some (.int .i64 (at0 ls 4))) [23] (by as_aux_lemma => kernel_rfl) ?_
    have hHeld : (fun w' : World => w'.cell? ⟨w6.heap.size, 0, none⟩ = some (.int .i64 m) ∧ w'.cell? ⟨w6.heap.size, 1, none⟩ = some (.slice oL n cL) ∧ w'.cell? ⟨w9.heap.size, 0, none⟩ = some (.int .i64 m) ∧ w'.cell? ⟨w9.heap.size, 1, none⟩ = some (.slice oQ n cQ) ∧ w'.cell? ⟨bl, fl + 1, none⟩ = some (.int .i64 (at0 ls 1)) ∧ w'.cell? ⟨bl, fl + 3, none⟩ = some (.int .i64 (at0 ls 3)) ∧ w'.cell? ⟨bl, fl + 4, none⟩ = some (.int .i64 (at0 ls 4))) w11.drew := by go_keep
    refine' wpAnyK_takeL (i := 0) (v := _) rfl (by as_aux_lemma => kernel_rfl) (by as_aux_lemma => kernel_rfl) (by as_aux_lemma => kernel_rfl) (by as_aux_lemma => kernel_rfl) (fun _ _ _ h => h) (Or.inl ⟨by rfl, ?yT44⟩) hHeld ?rT44
    case yT44 => (intro w' hSw; (try dsimp only at hSw); go_simp; try with_reducible rfl)
    try simp only [List.getElem_toArray, List.getElem_cons_zero, List.getElem_cons_succ, Act.put, List.setIfInBounds_toArray, List.set_cons_zero, List.set_cons_succ]
    refine' wpAnyK_takeL (i := 2) (v := _) rfl (by as_aux_lemma => kernel_rfl) (by as_aux_lemma => kernel_rfl) (by as_aux_lemma => kernel_rfl) (by as_aux_lemma => kernel_rfl) (fun _ _ _ h => h) (Or.inl ⟨by rfl, ?yT45⟩) hHeld ?rT45
    case yT45 => (intro w' hSw; (try dsimp only at hSw); go_simp; try with_reducible rfl)
    try simp only [List.getElem_toArray, List.getElem_cons_zero, List.getElem_cons_succ, Act.put, List.setIfInBounds_toArray, List.set_cons_zero, List.set_cons_succ]
    refine' wpAnyK_takeL (i := 3) (v := _) rfl (by as_aux_lemma => kernel_rfl) (by as_aux_lemma => kernel_rfl) (by as_aux_lemma => kernel_rfl) (by as_aux_lemma => kernel_rfl) (fun _ _ _ h => h) (Or.inl ⟨by rfl, ?yT46⟩) hHeld ?rT46
    case yT46 => (intro w' hSw; (try dsimp only at hSw); go_simp; try with_reducible rfl)
    try simp only [List.getElem_toArray, List.getElem_cons_zero, List.getElem_cons_succ, Act.put, List.setIfInBounds_toArray, List.set_cons_zero, List.set_cons_succ]
    refine' wpAnyK_takeL (i := 4) (v := _) rfl (by as_aux_lemma => kernel_rfl) (by as_aux_lemma => kernel_rfl) (by as_aux_lemma => kernel_rfl) (by as_aux_lemma => kernel_rfl) (fun _ _ _ h => h) (Or.inl ⟨by rfl, ?yT47⟩) hHeld ?rT47
    case yT47 => (intro w' hSw; (try dsimp only at hSw); go_simp; try with_reducible rfl)
    try simp only [List.getElem_toArray, List.getElem_cons_zero, List.getElem_cons_succ, Act.put, List.setIfInBounds_toArray, List.set_cons_zero, List.set_cons_succ]
    refine' wpAnyK_takeL (i := 5) (v := _) rfl (by as_aux_lemma => kernel_rfl) (by as_aux_lemma => kernel_rfl) (by as_aux_lemma => kernel_rfl) (by as_aux_lemma => kernel_rfl) (fun _ _ _ h => h) (Or.inl ⟨by rfl, ?yT48⟩) hHeld ?rT48
    case yT48 => (intro w' hSw; (try dsimp only at hSw); go_simp; try with_reducible rfl)
    try simp only [List.getElem_toArray, List.getElem_cons_zero, List.getElem_cons_succ, Act.put, List.setIfInBounds_toArray, List.set_cons_zero, List.set_cons_succ]
    refine' wpAnyK_takeL (i := 8) (v := _) rfl (by as_aux_lemma => kernel_rfl) (by as_aux_lemma => kernel_rfl) (by as_aux_lemma => kernel_rfl) (by as_aux_lemma => kernel_rfl) (fun _ _ _ h => h) (Or.inl ⟨by rfl, ?yT49⟩) hHeld ?rT49
    case yT49 => (intro w' hSw; (try dsimp only at hSw); go_simp; try with_reducible rfl)
    try simp only [List.getElem_toArray, List.getElem_cons_zero, List.getElem_cons_succ, Act.put, List.setIfInBounds_toArray, List.set_cons_zero, List.set_cons_succ]
    refine' wpAnyK_takeL (i := 9) (v := _) rfl (by as_aux_lemma => kernel_rfl) (by as_aux_lemma => kernel_rfl) (by as_aux_lemma => kernel_rfl) (by as_aux_lemma => kernel_rfl) (fun _ _ _ h => h) (Or.inl ⟨by rfl, ?yT50⟩) hHeld ?rT50
    case yT50 => (intro w' hSw; (try dsimp only at hSw); go_simp; try with_reducible rfl)
    try simp only [List.getElem_toArray, List.getElem_cons_zero, List.getElem_cons_succ, Act.put, List.setIfInBounds_toArray, List.set_cons_zero, List.set_cons_succ]
    refine' wpAnyK_takeL (i := 10) (v := _) rfl (by as_aux_lemma => kernel_rfl) (by as_aux_lemma => kernel_rfl) (by as_aux_lemma => kernel_rfl) (by as_aux_lemma => kernel_rfl) (fun _ _ _ h => h) (Or.inl ⟨by rfl, ?yT51⟩) hHeld ?rT51
    case yT51 => (intro w' hSw; (try dsimp only at hSw); go_simp; try with_reducible rfl)
    try simp only [List.getElem_toArray, List.getElem_cons_zero, List.getElem_cons_succ, Act.put, List.setIfInBounds_toArray, List.set_cons_zero, List.set_cons_succ]
    refine' wpAnyK_takeL (i := 11) (v := _) rfl (by as_aux_lemma => kernel_rfl) (by as_aux_lemma => kernel_rfl) (by as_aux_lemma => kernel_rfl) (by as_aux_lemma => kernel_rfl) (fun _ _ _ h => h) (Or.inl ⟨by rfl, ?yT52⟩) hHeld ?rT52
    case yT52 => (intro w' hSw; (try dsimp only at hSw); go_simp; try with_reducible rfl)
    try simp only [List.getElem_toArray, List.getElem_cons_zero, List.getElem_cons_succ, Act.put, List.setIfInBounds_toArray, List.set_cons_zero, List.set_cons_succ]
    refine' wpAnyK_takeL (i := 14) (v := _) rfl (by as_aux_lemma => kernel_rfl) (by as_aux_lemma => kernel_rfl) (by as_aux_lemma => kernel_rfl) (by as_aux_lemma => kernel_rfl) (fun _ _ _ h => h) (Or.inl ⟨by rfl, ?yT53⟩) hHeld ?rT53
    case yT53 => (intro w' hSw; (try dsimp only at hSw); go_simp; try with_reducible rfl)
    try simp only [List.getElem_toArray, List.getElem_cons_zero, List.getElem_cons_succ, Act.put, List.setIfInBounds_toArray, List.set_cons_zero, List.set_cons_succ]
    refine' wpAnyK_takeL (i := 15) (v := _) rfl (by as_aux_lemma => kernel_rfl) (by as_aux_lemma => kernel_rfl) (by as_aux_lemma => kernel_rfl) (by as_aux_lemma => kernel_rfl) (fun _ _ _ h => h) (Or.inl ⟨by rfl, ?yT54⟩) hHeld ?rT54
    case yT54 => (intro w' hSw; (try dsimp only at hSw); go_simp; try with_reducible rfl)
    try simp only [List.getElem_toArray, List.getElem_cons_zero, List.getElem_cons_succ, Act.put, List.setIfInBounds_toArray, List.set_cons_zero, List.set_cons_succ]
    refine' wpAnyK_takeL (i := 17) (v := _) rfl (by as_aux_lemma => kernel_rfl) (by as_aux_lemma => kernel_rfl) (by as_aux_lemma => kernel_rfl) (by as_aux_lemma => kernel_rfl) (fun _ _ _ h => h) (Or.inl ⟨by rfl, ?yT55⟩) hHeld ?rT55
    case yT55 => (intro w' hSw; (try dsimp only at hSw); go_simp; try with_reducible rfl)
    try simp only [List.getElem_toArray, List.getElem_cons_zero, List.getElem_cons_succ, Act.put, List.setIfInBounds_toArray, List.set_cons_zero, List.set_cons_succ]
    refine' wpAnyK_takeL (i := 18) (v := _) rfl (by as_aux_lemma => kernel_rfl) (by as_aux_lemma => kernel_rfl) (by as_aux_lemma => kernel_rfl) (by as_aux_lemma => kernel_rfl) (fun _ _ _ h => h) (Or.inl ⟨by rfl, ?yT56⟩) hHeld ?rT56
    case yT56 => (intro w' hSw; (try dsimp only at hSw); go_simp; try with_reducible rfl)
    try simp only [List.getElem_toArray, List.getElem_cons_zero, List.getElem_cons_succ, Act.put, List.setIfInBounds_toArray, List.set_cons_zero, List.set_cons_succ]
    refine' wpAnyK_takeL (i := 19) (v := _) rfl (by as_aux_lemma => kernel_rfl) (by as_aux_lemma => kernel_rfl) (by as_aux_lemma => kernel_rfl) (by as_aux_lemma => kernel_rfl) (fun _ _ _ h => h) (Or.inl ⟨by rfl, ?yT57⟩) hHeld ?rT57
    case yT57 => (intro w' hSw; (try dsimp only at hSw); go_simp; try with_reducible rfl)
    try simp only [List.getElem_toArray, List.getElem_cons_zero, List.getElem_cons_succ, Act.put, List.setIfInBounds_toArray, List.set_cons_zero, List.set_cons_succ]
    clear hHeld
    refine wpFl_start (f := 22) (slot := 15) (Bx := FlB (w11.heap.size)) (x0 := undef) (by rfl) ?_
    try simp only [List.getElem_toArray, List.getElem_cons_zero, List.getElem_cons_succ, Act.put, List.setIfInBounds_toArray, List.set_cons_zero, List.set_cons_succ]
    refine wpFl_step (f := 22) (slot := 15) (c := 1) (Z := (.cells #[.int .i64 0, .slice none 0 0] 25)) (F := fun u => Below (w11.heap.size) w11 u) (Bx := FlB (w11.heap.size)) rfl rfl (by decide) (by as_aux_lemma => kernel_rfl) (by as_aux_lemma => kernel_rfl) ?al58 ?bx58 ?hs58 ?f58 ?st58 ?step58
    case al58 => as_aux_lemma => (intro u K h; (try dsimp only at h ⊢); go_simp; exact h)
    case bx58 => as_aux_lemma => (rintro u hd; exact FlB.new hd.size)
    case hs58 => as_aux_lemma =>
      rintro u hd
      obtain ⟨qs_LB111_0, qs_LB111_1⟩ := LB11.1.below hd (Nat.le_refl _)
      obtain ⟨qs_QB111_0, qs_QB111_1⟩ := QB11.1.below hd (Nat.le_refl _)
      have qs_a1 := (((hv11).below hd (Nat.le_refl _))).cell0 (some_at0 (show 1 < ls.length by have := HL.out; omega))
      have qs_a3 := (((hv11).below hd (Nat.le_refl _))).cell0 (some_at0 (show 3 < ls.length by have := HL.out; omega))
      have qs_a4 := (((hv11).below hd (Nat.le_refl _))).cell0 (some_at0 (show 4 < ls.length by have := HL.out; omega))
      go_keep
    case f58 => exact hd
    case st58 => as_aux_lemma => (rintro u hd; have hb : Below u.heap.size u (u.alloc (.cells #[.int .i64 0, .slice none 0 0] 25)) := (Below.refl _ _).alloc (Nat.le_refl _) _; exact hd.trans (hb.mono hd.size))
    case step58 =>
    clear hsd
    intro u0 x0 hd K hK
    have hsd := hd.size
    obtain ⟨q0_LB111_0, q0_LB111_1⟩ := LB11.1.below hd (Nat.le_refl _)
    obtain ⟨q0_QB111_0, q0_QB111_1⟩ := QB11.1.below hd (Nat.le_refl _)
    have q0_a1 := (((hv11).below hd (Nat.le_refl _))).cell0 (some_at0 (show 1 < ls.length by have := HL.out; omega))
    have q0_a3 := (((hv11).below hd (Nat.le_refl _))).cell0 (some_at0 (show 3 < ls.length by have := HL.out; omega))
    have q0_a4 := (((hv11).below hd (Nat.le_refl _))).cell0 (some_at0 (show 4 < ls.length by have := HL.out; omega))
    (try dsimp only)
    go_simp
    go_at_call 41
    refine (one_n m oL n cL _ (by omega) (by omega) hm hm').mono ?_
    rintro e v0 ⟨_, rfl, hA, hbA⟩
    obtain ⟨oA, cA, rfl⟩ := hA.shapeN (n := n) (tri_len _ _)
    go_wp2_with fail
    have hsd0 := hbA.size
    have hA := hA.mono (B' := w11.heap.size) hd.size
    have hd := hd.trans (hbA.mono hd.size)
    obtain ⟨q0n_LB111_0, q0n_LB111_1⟩ := LB11.1.below hd (Nat.le_refl _)
    obtain ⟨q0n_QB111_0, q0n_QB111_1⟩ := QB11.1.below hd (Nat.le_refl _)
    have q0n_a1 := (((hv11).below hd (Nat.le_refl _))).cell0 (some_at0 (show 1 < ls.length by have := HL.out; omega))
    have q0n_a3 := (((hv11).below hd (Nat.le_refl _))).cell0 (some_at0 (show 3 < ls.length by have := HL.out; omega))
    have q0n_a4 := (((hv11).below hd (Nat.le_refl _))).cell0 (some_at0 (show 4 < ls.length by have := HL.out; omega))
    have hHeld : (fun w' : World => w'.cell? ⟨w6.heap.size, 0, none⟩ = some (.int .i64 m) ∧ w'.cell? ⟨w6.heap.size, 1, none⟩ = some (.slice oL n cL) ∧ w'.cell? ⟨w9.heap.size, 0, none⟩ = some (.int .i64 m) ∧ w'.cell? ⟨w9.heap.size, 1, none⟩ = some (.slice oQ n cQ) ∧ w'.cell? ⟨bl, fl + 1, none⟩ = some (.int .i64 (at0 ls 1)) ∧ w'.cell? ⟨bl, fl + 3, none⟩ = some (.int .i64 (at0 ls 3)) ∧ w'.cell? ⟨bl, fl + 4, none⟩ = some (.int .i64 (at0 ls 4))) v0 := by go_keep
    refine hK.out _ _ (FlB (w11.heap.size)) (by rfl) (fun b hb => hb.below hbA (Nat.le_refl _)) (fun _ => hHeld) ?_
    clear hK K hHeld
    try simp only [List.getElem_toArray, List.getElem_cons_zero, List.getElem_cons_succ, Act.put, List.setIfInBounds_toArray, List.set_cons_zero, List.set_cons_succ]
    refine wpFl_step (f := 22) (slot := 15) (c := 6) (Z := (.cells #[.int .i64 0, .slice none 0 0] 25)) (F := fun u => Below (w11.heap.size) w11 u ∧ OwS u (w11.heap.size) (.slice oA n cA) (oneT m n)) (Bx := FlB (w11.heap.size)) rfl rfl (by decide) (by as_aux_lemma => kernel_rfl) (by as_aux_lemma => kernel_rfl) ?al59 ?bx59 ?hs59 ?f59 ?st59 ?step59
    case al59 => as_aux_lemma => (intro u K h; (try dsimp only at h ⊢); go_simp; exact h)
    case bx59 => as_aux_lemma => (rintro u ⟨hd, hA⟩; exact FlB.new hd.size)
    case hs59 => as_aux_lemma =>
      rintro u ⟨hd, hA⟩
      obtain ⟨qs_LB111_0, qs_LB111_1⟩ := LB11.1.below hd (Nat.le_refl _)
      obtain ⟨qs_QB111_0, qs_QB111_1⟩ := QB11.1.below hd (Nat.le_refl _)
      have qs_a1 := (((hv11).below hd (Nat.le_refl _))).cell0 (some_at0 (show 1 < ls.length by have := HL.out; omega))
      have qs_a3 := (((hv11).below hd (Nat.le_refl _))).cell0 (some_at0 (show 3 < ls.length by have := HL.out; omega))
      have qs_a4 := (((hv11).below hd (Nat.le_refl _))).cell0 (some_at0 (show 4 < ls.length by have := HL.out; omega))
      go_keep
    case f59 => exact ⟨hd, hA⟩
    case st59 => as_aux_lemma => (rintro u ⟨hd, hA⟩; have hb : Below u.heap.size u (u.alloc (.cells #[.int .i64 0, .slice none 0 0] 25)) := (Below.refl _ _).alloc (Nat.le_refl _) _; exact ⟨hd.trans (hb.mono hd.size), hA.alloc _⟩)
    case step59 =>
    clear hsd
    rintro u1 x1 ⟨hd, hA⟩ K hK
    have hsd := hd.size
    obtain ⟨q1_LB111_0, q1_LB111_1⟩ := LB11.1.below hd (Nat.le_refl _)
    obtain ⟨q1_QB111_0, q1_QB111_1⟩ := QB11.1.below hd (Nat.le_refl _)
    have q1_a1 := (((hv11).below hd (Nat.le_refl _))).cell0 (some_at0 (show 1 < ls.length by have := HL.out; omega))
    have q1_a3 := (((hv11).below hd (Nat.le_refl _))).cell0 (some_at0 (show 3 < ls.length by have := HL.out; omega))
    have q1_a4 := (((hv11).below hd (Nat.le_refl _))).cell0 (some_at0 (show 4 < ls.length by have := HL.out; omega))
    (try dsimp only)
    go_simp
    go_at_call 39
    refine (scaledP_n m (at0 ls 1) n _ L _ ((L11).below hd (Nat.le_refl _)) (by omega) (by omega) hm hm' (by first | assumption | exact timesT_ok (by omega) _ _ _ | exact addT_ok (by omega) _ _ _ | exact PlaT.sub (by omega) _ _ _ | exact PlaT.sca (by omega) _ _ _ | exact PlaT.one (by omega) _ | exact PlaT.inv (by omega) _ _ | exact hornT_ok (by omega) _ _ _ | exact PlaT.cln (by omega) _ _) (by omega) (by omega)).mono ?_
    rintro e v1 ⟨_, rfl, hB, hbB⟩
    obtain ⟨oB, cB, rfl⟩ := hB.shapeN (n := n) (tri_len _ _)
    go_wp2_with fail
    have hsd1 := hbB.size
    have hA := hA.below hbB
    have hB := hB.mono (B' := w11.heap.size) hd.size
    have hd := hd.trans (hbB.mono hd.size)
    obtain ⟨q1n_LB111_0, q1n_LB111_1⟩ := LB11.1.below hd (Nat.le_refl _)
    obtain ⟨q1n_QB111_0, q1n_QB111_1⟩ := QB11.1.below hd (Nat.le_refl _)
    have q1n_a1 := (((hv11).below hd (Nat.le_refl _))).cell0 (some_at0 (show 1 < ls.length by have := HL.out; omega))
    have q1n_a3 := (((hv11).below hd (Nat.le_refl _))).cell0 (some_at0 (show 3 < ls.length by have := HL.out; omega))
    have q1n_a4 := (((hv11).below hd (Nat.le_refl _))).cell0 (some_at0 (show 4 < ls.length by have := HL.out; omega))
    have hHeld : (fun w' : World => w'.cell? ⟨w6.heap.size, 0, none⟩ = some (.int .i64 m) ∧ w'.cell? ⟨w6.heap.size, 1, none⟩ = some (.slice oL n cL) ∧ w'.cell? ⟨w9.heap.size, 0, none⟩ = some (.int .i64 m) ∧ w'.cell? ⟨w9.heap.size, 1, none⟩ = some (.slice oQ n cQ) ∧ w'.cell? ⟨bl, fl + 1, none⟩ = some (.int .i64 (at0 ls 1)) ∧ w'.cell? ⟨bl, fl + 3, none⟩ = some (.int .i64 (at0 ls 3)) ∧ w'.cell? ⟨bl, fl + 4, none⟩ = some (.int .i64 (at0 ls 4))) v1 := by go_keep
    refine hK.out _ _ (FlB (w11.heap.size)) (by rfl) (fun b hb => hb.below hbB (Nat.le_refl _)) (fun _ => hHeld) ?_
    clear hK K hHeld
    try simp only [List.getElem_toArray, List.getElem_cons_zero, List.getElem_cons_succ, Act.put, List.setIfInBounds_toArray, List.set_cons_zero, List.set_cons_succ]
    refine wpFl_step (f := 22) (slot := 15) (c := 7) (Z := (.cells #[.int .i64 0, .slice none 0 0] 25)) (F := fun u => Below (w11.heap.size) w11 u ∧ OwS u (w11.heap.size) (.slice oA n cA) (oneT m n) ∧ OwS u (w11.heap.size) (.slice oB n cB) (scaT m n (at0 ls 1) L)) (Bx := FlB (w11.heap.size)) rfl rfl (by decide) (by as_aux_lemma => kernel_rfl) (by as_aux_lemma => kernel_rfl) ?al60 ?bx60 ?hs60 ?f60 ?st60 ?step60
    case al60 => as_aux_lemma => (intro u K h; (try dsimp only at h ⊢); go_simp; exact h)
    case bx60 => as_aux_lemma => (rintro u ⟨hd, hA, hB⟩; exact FlB.new hd.size)
    case hs60 => as_aux_lemma =>
      rintro u ⟨hd, hA, hB⟩
      obtain ⟨qs_LB111_0, qs_LB111_1⟩ := LB11.1.below hd (Nat.le_refl _)
      obtain ⟨qs_QB111_0, qs_QB111_1⟩ := QB11.1.below hd (Nat.le_refl _)
      have qs_a1 := (((hv11).below hd (Nat.le_refl _))).cell0 (some_at0 (show 1 < ls.length by have := HL.out; omega))
      have qs_a3 := (((hv11).below hd (Nat.le_refl _))).cell0 (some_at0 (show 3 < ls.length by have := HL.out; omega))
      have qs_a4 := (((hv11).below hd (Nat.le_refl _))).cell0 (some_at0 (show 4 < ls.length by have := HL.out; omega))
      go_keep
    case f60 => exact ⟨hd, hA, hB⟩
    case st60 => as_aux_lemma => (rintro u ⟨hd, hA, hB⟩; have hb : Below u.heap.size u (u.alloc (.cells #[.int .i64 0, .slice none 0 0] 25)) := (Below.refl _ _).alloc (Nat.le_refl _) _; exact ⟨hd.trans (hb.mono hd.size), hA.alloc _, hB.alloc _⟩)
    case step60 =>
    clear hsd
    rintro u2 x2 ⟨hd, hA, hB⟩ K hK
    have hsd := hd.size
    obtain ⟨q2_LB111_0, q2_LB111_1⟩ := LB11.1.below hd (Nat.le_refl _)
    obtain ⟨q2_QB111_0, q2_QB111_1⟩ := QB11.1.below hd (Nat.le_refl _)
    have q2_a1 := (((hv11).below hd (Nat.le_refl _))).cell0 (some_at0 (show 1 < ls.length by have := HL.out; omega))
    have q2_a3 := (((hv11).below hd (Nat.le_refl _))).cell0 (some_at0 (show 3 < ls.length by have := HL.out; omega))
    have q2_a4 := (((hv11).below hd (Nat.le_refl _))).cell0 (some_at0 (show 4 < ls.length by have := HL.out; omega))
    (try dsimp only)
    go_simp
    go_at_call 40
    refine (plusP_n m m n _ _ (oneT m n) (scaT m n (at0 ls 1) L) _ hA.rd hB.rd (by omega) (by omega) hm hm' (by first | assumption | exact timesT_ok (by omega) _ _ _ | exact addT_ok (by omega) _ _ _ | exact PlaT.sub (by omega) _ _ _ | exact PlaT.sca (by omega) _ _ _ | exact PlaT.one (by omega) _ | exact PlaT.inv (by omega) _ _ | exact hornT_ok (by omega) _ _ _ | exact PlaT.cln (by omega) _ _) (by first | assumption | exact timesT_ok (by omega) _ _ _ | exact addT_ok (by omega) _ _ _ | exact PlaT.sub (by omega) _ _ _ | exact PlaT.sca (by omega) _ _ _ | exact PlaT.one (by omega) _ | exact PlaT.inv (by omega) _ _ | exact hornT_ok (by omega) _ _ _ | exact PlaT.cln (by omega) _ _)).mono ?_
    rintro e v2 ⟨_, rfl, hC, hbC⟩
    obtain ⟨oC, cC, rfl⟩ := hC.shapeN (n := n) (tri_len _ _)
    go_wp2_with fail
    have hsd2 := hbC.size
    clear hA
    clear hB
    have hC := hC.mono (B' := w11.heap.size) hd.size
    have hd := hd.trans (hbC.mono hd.size)
    obtain ⟨q2n_LB111_0, q2n_LB111_1⟩ := LB11.1.below hd (Nat.le_refl _)
    obtain ⟨q2n_QB111_0, q2n_QB111_1⟩ := QB11.1.below hd (Nat.le_refl _)
    have q2n_a1 := (((hv11).below hd (Nat.le_refl _))).cell0 (some_at0 (show 1 < ls.length by have := HL.out; omega))
    have q2n_a3 := (((hv11).below hd (Nat.le_refl _))).cell0 (some_at0 (show 3 < ls.length by have := HL.out; omega))
    have q2n_a4 := (((hv11).below hd (Nat.le_refl _))).cell0 (some_at0 (show 4 < ls.length by have := HL.out; omega))
    have hHeld : (fun w' : World => w'.cell? ⟨w6.heap.size, 0, none⟩ = some (.int .i64 m) ∧ w'.cell? ⟨w6.heap.size, 1, none⟩ = some (.slice oL n cL) ∧ w'.cell? ⟨w9.heap.size, 0, none⟩ = some (.int .i64 m) ∧ w'.cell? ⟨w9.heap.size, 1, none⟩ = some (.slice oQ n cQ) ∧ w'.cell? ⟨bl, fl + 1, none⟩ = some (.int .i64 (at0 ls 1)) ∧ w'.cell? ⟨bl, fl + 3, none⟩ = some (.int .i64 (at0 ls 3)) ∧ w'.cell? ⟨bl, fl + 4, none⟩ = some (.int .i64 (at0 ls 4))) v2 := by go_keep
    refine hK.out _ _ (FlB (w11.heap.size)) (by rfl) (fun b hb => hb.below hbC (Nat.le_refl _)) (fun _ => hHeld) ?_
    clear hK K hHeld
    try simp only [List.getElem_toArray, List.getElem_cons_zero, List.getElem_cons_succ, Act.put, List.setIfInBounds_toArray, List.set_cons_zero, List.set_cons_succ]
    refine wpFl_step (f := 22) (slot := 15) (c := 12) (Z := (.cells #[.int .i64 0, .slice none 0 0] 25)) (F := fun u => Below (w11.heap.size) w11 u ∧ OwS u (w11.heap.size) (.slice oC n cC) (addT m n (oneT m n) (scaT m n (at0 ls 1) L))) (Bx := FlB (w11.heap.size)) rfl rfl (by decide) (by as_aux_lemma => kernel_rfl) (by as_aux_lemma => kernel_rfl) ?al61 ?bx61 ?hs61 ?f61 ?st61 ?step61
    case al61 => as_aux_lemma => (intro u K h; (try dsimp only at h ⊢); go_simp; exact h)
    case bx61 => as_aux_lemma => (rintro u ⟨hd, hC⟩; exact FlB.new hd.size)
    case hs61 => as_aux_lemma =>
      rintro u ⟨hd, hC⟩
      obtain ⟨qs_LB111_0, qs_LB111_1⟩ := LB11.1.below hd (Nat.le_refl _)
      obtain ⟨qs_QB111_0, qs_QB111_1⟩ := QB11.1.below hd (Nat.le_refl _)
      have qs_a1 := (((hv11).below hd (Nat.le_refl _))).cell0 (some_at0 (show 1 < ls.length by have := HL.out; omega))
      have qs_a3 := (((hv11).below hd (Nat.le_refl _))).cell0 (some_at0 (show 3 < ls.length by have := HL.out; omega))
      have qs_a4 := (((hv11).below hd (Nat.le_refl _))).cell0 (some_at0 (show 4 < ls.length by have := HL.out; omega))
      go_keep
    case f61 => exact ⟨hd, hC⟩
    case st61 => as_aux_lemma => (rintro u ⟨hd, hC⟩; have hb : Below u.heap.size u (u.alloc (.cells #[.int .i64 0, .slice none 0 0] 25)) := (Below.refl _ _).alloc (Nat.le_refl _) _; exact ⟨hd.trans (hb.mono hd.size), hC.alloc _⟩)
    case step61 =>
    clear hsd
    rintro u3 x3 ⟨hd, hC⟩ K hK
    have hsd := hd.size
    obtain ⟨q3_LB111_0, q3_LB111_1⟩ := LB11.1.below hd (Nat.le_refl _)
    obtain ⟨q3_QB111_0, q3_QB111_1⟩ := QB11.1.below hd (Nat.le_refl _)
    have q3_a1 := (((hv11).below hd (Nat.le_refl _))).cell0 (some_at0 (show 1 < ls.length by have := HL.out; omega))
    have q3_a3 := (((hv11).below hd (Nat.le_refl _))).cell0 (some_at0 (show 3 < ls.length by have := HL.out; omega))
    have q3_a4 := (((hv11).below hd (Nat.le_refl _))).cell0 (some_at0 (show 4 < ls.length by have := HL.out; omega))
    (try dsimp only)
    go_simp
    go_at_call 39
    refine (scaledP_n m (at0 ls 3) n _ Q _ ((Q11).below hd (Nat.le_refl _)) (by omega) (by omega) hm hm' (by first | assumption | exact timesT_ok (by omega) _ _ _ | exact addT_ok (by omega) _ _ _ | exact PlaT.sub (by omega) _ _ _ | exact PlaT.sca (by omega) _ _ _ | exact PlaT.one (by omega) _ | exact PlaT.inv (by omega) _ _ | exact hornT_ok (by omega) _ _ _ | exact PlaT.cln (by omega) _ _) (by omega) (by omega)).mono ?_
    rintro e v3 ⟨_, rfl, hD, hbD⟩
    obtain ⟨oD, cD, rfl⟩ := hD.shapeN (n := n) (tri_len _ _)
    go_wp2_with fail
    have hsd3 := hbD.size
    have hC := hC.below hbD
    have hD := hD.mono (B' := w11.heap.size) hd.size
    have hd := hd.trans (hbD.mono hd.size)
    obtain ⟨q3n_LB111_0, q3n_LB111_1⟩ := LB11.1.below hd (Nat.le_refl _)
    obtain ⟨q3n_QB111_0, q3n_QB111_1⟩ := QB11.1.below hd (Nat.le_refl _)
    have q3n_a1 := (((hv11).below hd (Nat.le_refl _))).cell0 (some_at0 (show 1 < ls.length by have := HL.out; omega))
    have q3n_a3 := (((hv11).below hd (Nat.le_refl _))).cell0 (some_at0 (show 3 < ls.length by have := HL.out; omega))
    have q3n_a4 := (((hv11).below hd (Nat.le_refl _))).cell0 (some_at0 (show 4 < ls.length by have := HL.out; omega))
    have hHeld : (fun w' : World => w'.cell? ⟨w6.heap.size, 0, none⟩ = some (.int .i64 m) ∧ w'.cell? ⟨w6.heap.size, 1, none⟩ = some (.slice oL n cL) ∧ w'.cell? ⟨w9.heap.size, 0, none⟩ = some (.int .i64 m) ∧ w'.cell? ⟨w9.heap.size, 1, none⟩ = some (.slice oQ n cQ) ∧ w'.cell? ⟨bl, fl + 1, none⟩ = some (.int .i64 (at0 ls 1)) ∧ w'.cell? ⟨bl, fl + 3, none⟩ = some (.int .i64 (at0 ls 3)) ∧ w'.cell? ⟨bl, fl + 4, none⟩ = some (.int .i64 (at0 ls 4))) v3 := by go_keep
    refine hK.out _ _ (FlB (w11.heap.size)) (by rfl) (fun b hb => hb.below hbD (Nat.le_refl _)) (fun _ => hHeld) ?_
    clear hK K hHeld
    try simp only [List.getElem_toArray, List.getElem_cons_zero, List.getElem_cons_succ, Act.put, List.setIfInBounds_toArray, List.set_cons_zero, List.set_cons_succ]
    refine wpFl_step (f := 22) (slot := 15) (c := 13) (Z := (.cells #[.int .i64 0, .slice none 0 0] 25)) (F := fun u => Below (w11.heap.size) w11 u ∧ OwS u (w11.heap.size) (.slice oC n cC) (addT m n (oneT m n) (scaT m n (at0 ls 1) L)) ∧ OwS u (w11.heap.size) (.slice oD n cD) (scaT m n (at0 ls 3) Q)) (Bx := FlB (w11.heap.size)) rfl rfl (by decide) (by as_aux_lemma => kernel_rfl) (by as_aux_lemma => kernel_rfl) ?al62 ?bx62 ?hs62 ?f62 ?st62 ?step62
    case al62 => as_aux_lemma => (intro u K h; (try dsimp only at h ⊢); go_simp; exact h)
    case bx62 => as_aux_lemma => (rintro u ⟨hd, hC, hD⟩; exact FlB.new hd.size)
    case hs62 => as_aux_lemma =>
      rintro u ⟨hd, hC, hD⟩
      obtain ⟨qs_LB111_0, qs_LB111_1⟩ := LB11.1.below hd (Nat.le_refl _)
      obtain ⟨qs_QB111_0, qs_QB111_1⟩ := QB11.1.below hd (Nat.le_refl _)
      have qs_a1 := (((hv11).below hd (Nat.le_refl _))).cell0 (some_at0 (show 1 < ls.length by have := HL.out; omega))
      have qs_a3 := (((hv11).below hd (Nat.le_refl _))).cell0 (some_at0 (show 3 < ls.length by have := HL.out; omega))
      have qs_a4 := (((hv11).below hd (Nat.le_refl _))).cell0 (some_at0 (show 4 < ls.length by have := HL.out; omega))
      go_keep
    case f62 => exact ⟨hd, hC, hD⟩
    case st62 => as_aux_lemma => (rintro u ⟨hd, hC, hD⟩; have hb : Below u.heap.size u (u.alloc (.cells #[.int .i64 0, .slice none 0 0] 25)) := (Below.refl _ _).alloc (Nat.le_refl _) _; exact ⟨hd.trans (hb.mono hd.size), hC.alloc _, hD.alloc _⟩)
    case step62 =>
    clear hsd
    rintro u4 x4 ⟨hd, hC, hD⟩ K hK
    have hsd := hd.size
    obtain ⟨q4_LB111_0, q4_LB111_1⟩ := LB11.1.below hd (Nat.le_refl _)
    obtain ⟨q4_QB111_0, q4_QB111_1⟩ := QB11.1.below hd (Nat.le_refl _)
    have q4_a1 := (((hv11).below hd (Nat.le_refl _))).cell0 (some_at0 (show 1 < ls.length by have := HL.out; omega))
    have q4_a3 := (((hv11).below hd (Nat.le_refl _))).cell0 (some_at0 (show 3 < ls.length by have := HL.out; omega))
    have q4_a4 := (((hv11).below hd (Nat.le_refl _))).cell0 (some_at0 (show 4 < ls.length by have := HL.out; omega))
    (try dsimp only)
    go_simp
    go_at_call 40
    refine (plusP_n m m n _ _ (addT m n (oneT m n) (scaT m n (at0 ls 1) L)) (scaT m n (at0 ls 3) Q) _ hC.rd hD.rd (by omega) (by omega) hm hm' (by first | assumption | exact timesT_ok (by omega) _ _ _ | exact addT_ok (by omega) _ _ _ | exact PlaT.sub (by omega) _ _ _ | exact PlaT.sca (by omega) _ _ _ | exact PlaT.one (by omega) _ | exact PlaT.inv (by omega) _ _ | exact hornT_ok (by omega) _ _ _ | exact PlaT.cln (by omega) _ _) (by first | assumption | exact timesT_ok (by omega) _ _ _ | exact addT_ok (by omega) _ _ _ | exact PlaT.sub (by omega) _ _ _ | exact PlaT.sca (by omega) _ _ _ | exact PlaT.one (by omega) _ | exact PlaT.inv (by omega) _ _ | exact hornT_ok (by omega) _ _ _ | exact PlaT.cln (by omega) _ _)).mono ?_
    rintro e v4 ⟨_, rfl, hE, hbE⟩
    obtain ⟨oE, cE, rfl⟩ := hE.shapeN (n := n) (tri_len _ _)
    go_wp2_with fail
    have hsd4 := hbE.size
    clear hC
    clear hD
    have hE := hE.mono (B' := w11.heap.size) hd.size
    have hd := hd.trans (hbE.mono hd.size)
    obtain ⟨q4n_LB111_0, q4n_LB111_1⟩ := LB11.1.below hd (Nat.le_refl _)
    obtain ⟨q4n_QB111_0, q4n_QB111_1⟩ := QB11.1.below hd (Nat.le_refl _)
    have q4n_a1 := (((hv11).below hd (Nat.le_refl _))).cell0 (some_at0 (show 1 < ls.length by have := HL.out; omega))
    have q4n_a3 := (((hv11).below hd (Nat.le_refl _))).cell0 (some_at0 (show 3 < ls.length by have := HL.out; omega))
    have q4n_a4 := (((hv11).below hd (Nat.le_refl _))).cell0 (some_at0 (show 4 < ls.length by have := HL.out; omega))
    have hHeld : (fun w' : World => w'.cell? ⟨w6.heap.size, 0, none⟩ = some (.int .i64 m) ∧ w'.cell? ⟨w6.heap.size, 1, none⟩ = some (.slice oL n cL) ∧ w'.cell? ⟨w9.heap.size, 0, none⟩ = some (.int .i64 m) ∧ w'.cell? ⟨w9.heap.size, 1, none⟩ = some (.slice oQ n cQ) ∧ w'.cell? ⟨bl, fl + 1, none⟩ = some (.int .i64 (at0 ls 1)) ∧ w'.cell? ⟨bl, fl + 3, none⟩ = some (.int .i64 (at0 ls 3)) ∧ w'.cell? ⟨bl, fl + 4, none⟩ = some (.int .i64 (at0 ls 4))) v4 := by go_keep
    refine hK.out _ _ (FlB (w11.heap.size)) (by rfl) (fun b hb => hb.below hbE (Nat.le_refl _)) (fun _ => hHeld) ?_
    clear hK K hHeld
    try simp only [List.getElem_toArray, List.getElem_cons_zero, List.getElem_cons_succ, Act.put, List.setIfInBounds_toArray, List.set_cons_zero, List.set_cons_succ]
    refine wpFl_step (f := 22) (slot := 15) (c := 16) (Z := (.cells #[.int .i64 0, .slice none 0 0] 25)) (F := fun u => Below (w11.heap.size) w11 u ∧ OwS u (w11.heap.size) (.slice oE n cE) (addT m n (addT m n (oneT m n) (scaT m n (at0 ls 1) L)) (scaT m n (at0 ls 3) Q))) (Bx := FlB (w11.heap.size)) rfl rfl (by decide) (by as_aux_lemma => kernel_rfl) (by as_aux_lemma => kernel_rfl) ?al63 ?bx63 ?hs63 ?f63 ?st63 ?step63
    case al63 => as_aux_lemma => (intro u K h; (try dsimp only at h ⊢); go_simp; exact h)
    case bx63 => as_aux_lemma => (rintro u ⟨hd, hE⟩; exact FlB.new hd.size)
    case hs63 => as_aux_lemma =>
      rintro u ⟨hd, hE⟩
      obtain ⟨qs_LB111_0, qs_LB111_1⟩ := LB11.1.below hd (Nat.le_refl _)
      obtain ⟨qs_QB111_0, qs_QB111_1⟩ := QB11.1.below hd (Nat.le_refl _)
      have qs_a1 := (((hv11).below hd (Nat.le_refl _))).cell0 (some_at0 (show 1 < ls.length by have := HL.out; omega))
      have qs_a3 := (((hv11).below hd (Nat.le_refl _))).cell0 (some_at0 (show 3 < ls.length by have := HL.out; omega))
      have qs_a4 := (((hv11).below hd (Nat.le_refl _))).cell0 (some_at0 (show 4 < ls.length by have := HL.out; omega))
      go_keep
    case f63 => exact ⟨hd, hE⟩
    case st63 => as_aux_lemma => (rintro u ⟨hd, hE⟩; have hb : Below u.heap.size u (u.alloc (.cells #[.int .i64 0, .slice none 0 0] 25)) := (Below.refl _ _).alloc (Nat.le_refl _) _; exact ⟨hd.trans (hb.mono hd.size), hE.alloc _⟩)
    case step63 =>
    clear hsd
    rintro u5 x5 ⟨hd, hE⟩ K hK
    have hsd := hd.size
    obtain ⟨q5_LB111_0, q5_LB111_1⟩ := LB11.1.below hd (Nat.le_refl _)
    obtain ⟨q5_QB111_0, q5_QB111_1⟩ := QB11.1.below hd (Nat.le_refl _)
    have q5_a1 := (((hv11).below hd (Nat.le_refl _))).cell0 (some_at0 (show 1 < ls.length by have := HL.out; omega))
    have q5_a3 := (((hv11).below hd (Nat.le_refl _))).cell0 (some_at0 (show 3 < ls.length by have := HL.out; omega))
    have q5_a4 := (((hv11).below hd (Nat.le_refl _))).cell0 (some_at0 (show 4 < ls.length by have := HL.out; omega))
    (try dsimp only)
    go_simp
    go_at_call 38
    refine (timesP_c m m n _ _ Q L _ ((Q11).below hd (Nat.le_refl _)) ((L11).below hd (Nat.le_refl _)) (by omega) (by omega) hm (by omega) (by first | assumption | exact timesT_ok (by omega) _ _ _ | exact addT_ok (by omega) _ _ _ | exact PlaT.sub (by omega) _ _ _ | exact PlaT.sca (by omega) _ _ _ | exact PlaT.one (by omega) _ | exact PlaT.inv (by omega) _ _ | exact hornT_ok (by omega) _ _ _ | exact PlaT.cln (by omega) _ _) (by first | assumption | exact timesT_ok (by omega) _ _ _ | exact addT_ok (by omega) _ _ _ | exact PlaT.sub (by omega) _ _ _ | exact PlaT.sca (by omega) _ _ _ | exact PlaT.one (by omega) _ | exact PlaT.inv (by omega) _ _ | exact hornT_ok (by omega) _ _ _ | exact PlaT.cln (by omega) _ _)).mono ?_
    rintro e v5 ⟨_, rfl, hG, hbG⟩
    obtain ⟨oG, cG, rfl⟩ := hG.shapeN (n := n) (tri_len _ _)
    go_wp2_with fail
    have hsd5 := hbG.size
    have hE := hE.below hbG
    have hG := hG.mono (B' := w11.heap.size) hd.size
    have hd := hd.trans (hbG.mono hd.size)
    obtain ⟨q5n_LB111_0, q5n_LB111_1⟩ := LB11.1.below hd (Nat.le_refl _)
    obtain ⟨q5n_QB111_0, q5n_QB111_1⟩ := QB11.1.below hd (Nat.le_refl _)
    have q5n_a1 := (((hv11).below hd (Nat.le_refl _))).cell0 (some_at0 (show 1 < ls.length by have := HL.out; omega))
    have q5n_a3 := (((hv11).below hd (Nat.le_refl _))).cell0 (some_at0 (show 3 < ls.length by have := HL.out; omega))
    have q5n_a4 := (((hv11).below hd (Nat.le_refl _))).cell0 (some_at0 (show 4 < ls.length by have := HL.out; omega))
    have hHeld : (fun w' : World => w'.cell? ⟨w6.heap.size, 0, none⟩ = some (.int .i64 m) ∧ w'.cell? ⟨w6.heap.size, 1, none⟩ = some (.slice oL n cL) ∧ w'.cell? ⟨w9.heap.size, 0, none⟩ = some (.int .i64 m) ∧ w'.cell? ⟨w9.heap.size, 1, none⟩ = some (.slice oQ n cQ) ∧ w'.cell? ⟨bl, fl + 1, none⟩ = some (.int .i64 (at0 ls 1)) ∧ w'.cell? ⟨bl, fl + 3, none⟩ = some (.int .i64 (at0 ls 3)) ∧ w'.cell? ⟨bl, fl + 4, none⟩ = some (.int .i64 (at0 ls 4))) v5 := by go_keep
    refine hK.out _ _ (FlB (w11.heap.size)) (by rfl) (fun b hb => hb.below hbG (Nat.le_refl _)) (fun _ => hHeld) ?_
    clear hK K hHeld
    try simp only [List.getElem_toArray, List.getElem_cons_zero, List.getElem_cons_succ, Act.put, List.setIfInBounds_toArray, List.set_cons_zero, List.set_cons_succ]
    refine wpFl_step (f := 22) (slot := 15) (c := 20) (Z := (.cells #[.int .i64 0, .slice none 0 0] 25)) (F := fun u => Below (w11.heap.size) w11 u ∧ OwS u (w11.heap.size) (.slice oE n cE) (addT m n (addT m n (oneT m n) (scaT m n (at0 ls 1) L)) (scaT m n (at0 ls 3) Q)) ∧ OwS u (w11.heap.size) (.slice oG n cG) (timesT m n Q L)) (Bx := FlB (w11.heap.size)) rfl rfl (by decide) (by as_aux_lemma => kernel_rfl) (by as_aux_lemma => kernel_rfl) ?al64 ?bx64 ?hs64 ?f64 ?st64 ?step64
    case al64 => as_aux_lemma => (intro u K h; (try dsimp only at h ⊢); go_simp; exact h)
    case bx64 => as_aux_lemma => (rintro u ⟨hd, hE, hG⟩; exact FlB.new hd.size)
    case hs64 => as_aux_lemma =>
      rintro u ⟨hd, hE, hG⟩
      obtain ⟨qs_LB111_0, qs_LB111_1⟩ := LB11.1.below hd (Nat.le_refl _)
      obtain ⟨qs_QB111_0, qs_QB111_1⟩ := QB11.1.below hd (Nat.le_refl _)
      have qs_a1 := (((hv11).below hd (Nat.le_refl _))).cell0 (some_at0 (show 1 < ls.length by have := HL.out; omega))
      have qs_a3 := (((hv11).below hd (Nat.le_refl _))).cell0 (some_at0 (show 3 < ls.length by have := HL.out; omega))
      have qs_a4 := (((hv11).below hd (Nat.le_refl _))).cell0 (some_at0 (show 4 < ls.length by have := HL.out; omega))
      go_keep
    case f64 => exact ⟨hd, hE, hG⟩
    case st64 => as_aux_lemma => (rintro u ⟨hd, hE, hG⟩; have hb : Below u.heap.size u (u.alloc (.cells #[.int .i64 0, .slice none 0 0] 25)) := (Below.refl _ _).alloc (Nat.le_refl _) _; exact ⟨hd.trans (hb.mono hd.size), hE.alloc _, hG.alloc _⟩)
    case step64 =>
    clear hsd
    rintro u6 x6 ⟨hd, hE, hG⟩ K hK
    have hsd := hd.size
    obtain ⟨q6_LB111_0, q6_LB111_1⟩ := LB11.1.below hd (Nat.le_refl _)
    obtain ⟨q6_QB111_0, q6_QB111_1⟩ := QB11.1.below hd (Nat.le_refl _)
    have q6_a1 := (((hv11).below hd (Nat.le_refl _))).cell0 (some_at0 (show 1 < ls.length by have := HL.out; omega))
    have q6_a3 := (((hv11).below hd (Nat.le_refl _))).cell0 (some_at0 (show 3 < ls.length by have := HL.out; omega))
    have q6_a4 := (((hv11).below hd (Nat.le_refl _))).cell0 (some_at0 (show 4 < ls.length by have := HL.out; omega))
    (try dsimp only)
    go_simp
    go_at_call 39
    refine (scaledP_n m (at0 ls 4) n _ (timesT m n Q L) _ hG.rd (by omega) (by omega) hm hm' (by first | assumption | exact timesT_ok (by omega) _ _ _ | exact addT_ok (by omega) _ _ _ | exact PlaT.sub (by omega) _ _ _ | exact PlaT.sca (by omega) _ _ _ | exact PlaT.one (by omega) _ | exact PlaT.inv (by omega) _ _ | exact hornT_ok (by omega) _ _ _ | exact PlaT.cln (by omega) _ _) (by omega) (by omega)).mono ?_
    rintro e v6 ⟨_, rfl, hH, hbH⟩
    obtain ⟨oH, cH, rfl⟩ := hH.shapeN (n := n) (tri_len _ _)
    go_wp2_with fail
    have hsd6 := hbH.size
    clear hG
    have hE := hE.below hbH
    have hH := hH.mono (B' := w11.heap.size) hd.size
    have hd := hd.trans (hbH.mono hd.size)
    obtain ⟨q6n_LB111_0, q6n_LB111_1⟩ := LB11.1.below hd (Nat.le_refl _)
    obtain ⟨q6n_QB111_0, q6n_QB111_1⟩ := QB11.1.below hd (Nat.le_refl _)
    have q6n_a1 := (((hv11).below hd (Nat.le_refl _))).cell0 (some_at0 (show 1 < ls.length by have := HL.out; omega))
    have q6n_a3 := (((hv11).below hd (Nat.le_refl _))).cell0 (some_at0 (show 3 < ls.length by have := HL.out; omega))
    have q6n_a4 := (((hv11).below hd (Nat.le_refl _))).cell0 (some_at0 (show 4 < ls.length by have := HL.out; omega))
    have hHeld : (fun w' : World => w'.cell? ⟨w6.heap.size, 0, none⟩ = some (.int .i64 m) ∧ w'.cell? ⟨w6.heap.size, 1, none⟩ = some (.slice oL n cL) ∧ w'.cell? ⟨w9.heap.size, 0, none⟩ = some (.int .i64 m) ∧ w'.cell? ⟨w9.heap.size, 1, none⟩ = some (.slice oQ n cQ) ∧ w'.cell? ⟨bl, fl + 1, none⟩ = some (.int .i64 (at0 ls 1)) ∧ w'.cell? ⟨bl, fl + 3, none⟩ = some (.int .i64 (at0 ls 3)) ∧ w'.cell? ⟨bl, fl + 4, none⟩ = some (.int .i64 (at0 ls 4))) v6 := by go_keep
    refine hK.out _ _ (FlB (w11.heap.size)) (by rfl) (fun b hb => hb.below hbH (Nat.le_refl _)) (fun _ => hHeld) ?_
    clear hK K hHeld
    try simp only [List.getElem_toArray, List.getElem_cons_zero, List.getElem_cons_succ, Act.put, List.setIfInBounds_toArray, List.set_cons_zero, List.set_cons_succ]
    refine wpFl_step (f := 22) (slot := 15) (c := 21) (Z := (.cells #[.int .i64 0, .slice none 0 0] 25)) (F := fun u => Below (w11.heap.size) w11 u ∧ OwS u (w11.heap.size) (.slice oE n cE) (addT m n (addT m n (oneT m n) (scaT m n (at0 ls 1) L)) (scaT m n (at0 ls 3) Q)) ∧ OwS u (w11.heap.size) (.slice oH n cH) (scaT m n (at0 ls 4) (timesT m n Q L))) (Bx := FlB (w11.heap.size)) rfl rfl (by decide) (by as_aux_lemma => kernel_rfl) (by as_aux_lemma => kernel_rfl) ?al65 ?bx65 ?hs65 ?f65 ?st65 ?step65
    case al65 => as_aux_lemma => (intro u K h; (try dsimp only at h ⊢); go_simp; exact h)
    case bx65 => as_aux_lemma => (rintro u ⟨hd, hE, hH⟩; exact FlB.new hd.size)
    case hs65 => as_aux_lemma =>
      rintro u ⟨hd, hE, hH⟩
      obtain ⟨qs_LB111_0, qs_LB111_1⟩ := LB11.1.below hd (Nat.le_refl _)
      obtain ⟨qs_QB111_0, qs_QB111_1⟩ := QB11.1.below hd (Nat.le_refl _)
      have qs_a1 := (((hv11).below hd (Nat.le_refl _))).cell0 (some_at0 (show 1 < ls.length by have := HL.out; omega))
      have qs_a3 := (((hv11).below hd (Nat.le_refl _))).cell0 (some_at0 (show 3 < ls.length by have := HL.out; omega))
      have qs_a4 := (((hv11).below hd (Nat.le_refl _))).cell0 (some_at0 (show 4 < ls.length by have := HL.out; omega))
      go_keep
    case f65 => exact ⟨hd, hE, hH⟩
    case st65 => as_aux_lemma => (rintro u ⟨hd, hE, hH⟩; have hb : Below u.heap.size u (u.alloc (.cells #[.int .i64 0, .slice none 0 0] 25)) := (Below.refl _ _).alloc (Nat.le_refl _) _; exact ⟨hd.trans (hb.mono hd.size), hE.alloc _, hH.alloc _⟩)
    case step65 =>
    clear hsd
    rintro u7 x7 ⟨hd, hE, hH⟩ K hK
    have hsd := hd.size
    obtain ⟨q7_LB111_0, q7_LB111_1⟩ := LB11.1.below hd (Nat.le_refl _)
    obtain ⟨q7_QB111_0, q7_QB111_1⟩ := QB11.1.below hd (Nat.le_refl _)
    have q7_a1 := (((hv11).below hd (Nat.le_refl _))).cell0 (some_at0 (show 1 < ls.length by have := HL.out; omega))
    have q7_a3 := (((hv11).below hd (Nat.le_refl _))).cell0 (some_at0 (show 3 < ls.length by have := HL.out; omega))
    have q7_a4 := (((hv11).below hd (Nat.le_refl _))).cell0 (some_at0 (show 4 < ls.length by have := HL.out; omega))
    (try dsimp only)
    go_simp
    go_at_call 40
    refine (plusP_n m m n _ _ (addT m n (addT m n (oneT m n) (scaT m n (at0 ls 1) L)) (scaT m n (at0 ls 3) Q)) (scaT m n (at0 ls 4) (timesT m n Q L)) _ hE.rd hH.rd (by omega) (by omega) hm hm' (by first | assumption | exact timesT_ok (by omega) _ _ _ | exact addT_ok (by omega) _ _ _ | exact PlaT.sub (by omega) _ _ _ | exact PlaT.sca (by omega) _ _ _ | exact PlaT.one (by omega) _ | exact PlaT.inv (by omega) _ _ | exact hornT_ok (by omega) _ _ _ | exact PlaT.cln (by omega) _ _) (by first | assumption | exact timesT_ok (by omega) _ _ _ | exact addT_ok (by omega) _ _ _ | exact PlaT.sub (by omega) _ _ _ | exact PlaT.sca (by omega) _ _ _ | exact PlaT.one (by omega) _ | exact PlaT.inv (by omega) _ _ | exact hornT_ok (by omega) _ _ _ | exact PlaT.cln (by omega) _ _)).mono ?_
    rintro e v7 ⟨_, rfl, hI, hbI⟩
    obtain ⟨oI, cI, rfl⟩ := hI.shapeN (n := n) (tri_len _ _)
    go_wp2_with fail
    have hsd7 := hbI.size
    have hrI := hI
    clear hE
    clear hH
    have hI := hI.mono (B' := w11.heap.size) hd.size
    have hd := hd.trans (hbI.mono hd.size)
    obtain ⟨q7n_LB111_0, q7n_LB111_1⟩ := LB11.1.below hd (Nat.le_refl _)
    obtain ⟨q7n_QB111_0, q7n_QB111_1⟩ := QB11.1.below hd (Nat.le_refl _)
    have q7n_a1 := (((hv11).below hd (Nat.le_refl _))).cell0 (some_at0 (show 1 < ls.length by have := HL.out; omega))
    have q7n_a3 := (((hv11).below hd (Nat.le_refl _))).cell0 (some_at0 (show 3 < ls.length by have := HL.out; omega))
    have q7n_a4 := (((hv11).below hd (Nat.le_refl _))).cell0 (some_at0 (show 4 < ls.length by have := HL.out; omega))
    have hHeld : (fun w' : World => w'.cell? ⟨w6.heap.size, 0, none⟩ = some (.int .i64 m) ∧ w'.cell? ⟨w6.heap.size, 1, none⟩ = some (.slice oL n cL) ∧ w'.cell? ⟨w9.heap.size, 0, none⟩ = some (.int .i64 m) ∧ w'.cell? ⟨w9.heap.size, 1, none⟩ = some (.slice oQ n cQ) ∧ w'.cell? ⟨bl, fl + 1, none⟩ = some (.int .i64 (at0 ls 1)) ∧ w'.cell? ⟨bl, fl + 3, none⟩ = some (.int .i64 (at0 ls 3)) ∧ w'.cell? ⟨bl, fl + 4, none⟩ = some (.int .i64 (at0 ls 4))) v7 := by go_keep
    refine hK.out _ _ (FlE (w11.heap.size) (fun w => RdT w (.slice oI n cI) (addT m n (addT m n (addT m n (oneT m n) (scaT m n (at0 ls 1) L)) (scaT m n (at0 ls 3) Q)) (scaT m n (at0 ls 4) (timesT m n Q L))))) (by rfl) (fun b hb => ⟨hb.below hbI (Nat.le_refl _), hrI.flOld hb.lt⟩) (fun _ => hHeld) ?_
    clear hK K hHeld
    try simp only [List.getElem_toArray, List.getElem_cons_zero, List.getElem_cons_succ, Act.put, List.setIfInBounds_toArray, List.set_cons_zero, List.set_cons_succ]
    clear hsd
    have hsd := hd.size
    refine wpFl_end (f := 22) (Z := (.cells #[.int .i64 0, .slice none 0 0] 25)) (F := fun u => Below (w11.heap.size) w11 u ∧ OwS u (w11.heap.size) (.slice oI n cI) (addT m n (addT m n (addT m n (oneT m n) (scaT m n (at0 ls 1) L)) (scaT m n (at0 ls 3) Q)) (scaT m n (at0 ls 4) (timesT m n Q L)))) rfl (by as_aux_lemma => kernel_rfl) ?al66 ?bx66 ?hs66 ?f66 ?st66 ?H66
    case al66 => as_aux_lemma => (intro u K h; (try dsimp only at h ⊢); go_simp; exact h)
    case bx66 => as_aux_lemma => (rintro u ⟨hd, hI⟩; exact ⟨FlB.new hd.size, hI.flNew _⟩)
    case hs66 => as_aux_lemma =>
      rintro u ⟨hd, hI⟩
      obtain ⟨qs_LB111_0, qs_LB111_1⟩ := LB11.1.below hd (Nat.le_refl _)
      obtain ⟨qs_QB111_0, qs_QB111_1⟩ := QB11.1.below hd (Nat.le_refl _)
      have qs_a1 := (((hv11).below hd (Nat.le_refl _))).cell0 (some_at0 (show 1 < ls.length by have := HL.out; omega))
      have qs_a3 := (((hv11).below hd (Nat.le_refl _))).cell0 (some_at0 (show 3 < ls.length by have := HL.out; omega))
      have qs_a4 := (((hv11).below hd (Nat.le_refl _))).cell0 (some_at0 (show 4 < ls.length by have := HL.out; omega))
      go_keep
    case f66 => exact ⟨hd, hI⟩
    case st66 => as_aux_lemma => (rintro u ⟨hd, hI⟩; have hb : Below u.heap.size u (u.alloc (.cells #[.int .i64 0, .slice none 0 0] 25)) := (Below.refl _ _).alloc (Nat.le_refl _) _; exact ⟨hd.trans (hb.mono hd.size), hI.alloc _⟩)
    case H66 =>
    rintro u b ⟨hd, hI⟩ ⟨hB, hP⟩
    obtain ⟨⟨z0, z1⟩, zf⟩ := id hB.1
    (try dsimp only)
    refine wpAnyK_oneL (i := 23) rfl (by as_aux_lemma => kernel_rfl) (fun K hK => ?_)
    go_simp
    (try go_wp2_with fail)
    refine hK.out _ _ (fun h => absurd h (by decide)) ?_
    clear hK K
    try simp only [List.getElem_toArray, List.getElem_cons_zero, List.getElem_cons_succ, Act.put, List.setIfInBounds_toArray, List.set_cons_zero, List.set_cons_succ]
    refine wpAnyK_done (by as_aux_lemma => kernel_rfl) ?_ _
    go_wp2_with fail
    go_meet
    exact ⟨b, oI, cI, rfl, hB.1.put _ _, hP _ _, (hd.setCell hB.2 _).setCell hB.2 _⟩
  case rest =>
  obtain ⟨w12, rfl⟩ : ∃ u, u = wc := ⟨_, rfl⟩
  obtain ⟨bU, oU, cU, rfl, RbU, hbU, hb⟩ := hcut
  obtain ⟨U, hU_⟩ : ∃ U, U = (addT m n (addT m n (addT m n (oneT m n) (scaT m n (at0 ls 1) L)) (scaT m n (at0 ls 3) Q)) (scaT m n (at0 ls 4) (timesT m n Q L))) := ⟨_, rfl⟩
  rw [← hU_] at hbU
  have HU : PlaT m n U := by rw [hU_]; exact (by first | assumption | exact timesT_ok (by omega) _ _ _ | exact addT_ok (by omega) _ _ _ | exact PlaT.sub (by omega) _ _ _ | exact PlaT.sca (by omega) _ _ _ | exact PlaT.one (by omega) _ | exact PlaT.inv (by omega) _ _ | exact hornT_ok (by omega) _ _ _ | exact PlaT.cln (by omega) _ _)
  have HUd := Lib.hid hU_
  clear hU_
  (have R12 := R11.below hb (Nat.le_refl _); have hv12 := hv11.below hb (Nat.le_refl _); have CW12 := CW11.below hb (Nat.le_refl _); have X12 := X11.below hb (Nat.le_refl _); have Y12 := Y11.below hb (Nat.le_refl _); have CB12 := CB11.below hb (Nat.le_refl _); have XB12 := XB11.below hb (Nat.le_refl _); have YB12 := YB11.below hb (Nat.le_refl _); have T12 := T11.below hb (Nat.le_refl _); have TB12 := TB11.below hb (Nat.le_refl _); have B12 := B11.trans (hb.mono B11.size); clear R11 hv11 CW11 X11 Y11 CB11 XB11 YB11 T11 TB11 B11)
  clear hb
  have UB12 := RbU
  have U12 := hbU
  clear RbU hbU
  have lU := UB12.1.lt
  have lT12 := TB12.1.lt
  have lX12 := XB12.1.lt
  have lY12 := YB12.1.lt
  go_wp2_with fail
  go_cut [16] from 107 to 114 (fun s u => ∃ (b : Nat) (o : Option Addr) (c : Nat), s = .pointer (some ⟨b, 0, none⟩) ∧ RB2 u b (.int .i64 m) (.slice o n c) ∧ RdT u (.slice o n c) (addT m n (addT m n X Y) (timesT m n T (invT m n U))) ∧ Below w12.heap.size w12 u)
  case first =>
    as_aux_lemma =>
    have hd : Below w12.heap.size w12 w12.drew := (Below.refl _ _).drew
    have hsd := hd.size
    obtain ⟨qz_XB121_0, qz_XB121_1⟩ := XB12.1.below hd (Nat.le_refl _)
    obtain ⟨qz_YB121_0, qz_YB121_1⟩ := YB12.1.below hd (Nat.le_refl _)
    obtain ⟨qz_TB121_0, qz_TB121_1⟩ := TB12.1.below hd (Nat.le_refl _)
    obtain ⟨qz_UB121_0, qz_UB121_1⟩ := UB12.1.below hd (Nat.le_refl _)
    refine wp_region_K (S := fun w' => w'.cell? ⟨w3.heap.size, 0, none⟩ = some (.int .i64 m) ∧ w'.cell? ⟨w3.heap.size, 1, none⟩ = some (.slice ox n cx) ∧ w'.cell? ⟨w3.heap.size + 1, 0, none⟩ = some (.int .i64 m) ∧ w'.cell? ⟨w3.heap.size + 1, 1, none⟩ = some (.slice oy n cy) ∧ w'.cell? ⟨bT, 0, none⟩ = some (.int .i64 m) ∧ w'.cell? ⟨bT, 1, none⟩ = some (.slice oT n cT) ∧ w'.cell? ⟨bU, 0, none⟩ = some (.int .i64 m) ∧ w'.cell? ⟨bU, 1, none⟩ = some (.slice oU n cU)) [9] (by as_aux_lemma => kernel_rfl) ?_
    have hHeld : (fun w' : World => w'.cell? ⟨w3.heap.size, 0, none⟩ = some (.int .i64 m) ∧ w'.cell? ⟨w3.heap.size, 1, none⟩ = some (.slice ox n cx) ∧ w'.cell? ⟨w3.heap.size + 1, 0, none⟩ = some (.int .i64 m) ∧ w'.cell? ⟨w3.heap.size + 1, 1, none⟩ = some (.slice oy n cy) ∧ w'.cell? ⟨bT, 0, none⟩ = some (.int .i64 m) ∧ w'.cell? ⟨bT, 1, none⟩ = some (.slice oT n cT) ∧ w'.cell? ⟨bU, 0, none⟩ = some (.int .i64 m) ∧ w'.cell? ⟨bU, 1, none⟩ = some (.slice oU n cU)) w12.drew := by go_keep
    refine' wpAnyK_takeL (i := 0) (v := _) rfl (by as_aux_lemma => kernel_rfl) (by as_aux_lemma => kernel_rfl) (by as_aux_lemma => kernel_rfl) (by as_aux_lemma => kernel_rfl) (fun _ _ _ h => h) (Or.inl ⟨by rfl, ?yT67⟩) hHeld ?rT67
    case yT67 => (intro w' hSw; (try dsimp only at hSw); go_simp; try with_reducible rfl)
    try simp only [List.getElem_toArray, List.getElem_cons_zero, List.getElem_cons_succ, Act.put, List.setIfInBounds_toArray, List.set_cons_zero, List.set_cons_succ]
    refine' wpAnyK_takeL (i := 1) (v := _) rfl (by as_aux_lemma => kernel_rfl) (by as_aux_lemma => kernel_rfl) (by as_aux_lemma => kernel_rfl) (by as_aux_lemma => kernel_rfl) (fun _ _ _ h => h) (Or.inl ⟨by rfl, ?yT68⟩) hHeld ?rT68
    case yT68 => (intro w' hSw; (try dsimp only at hSw); go_simp; try with_reducible rfl)
    try simp only [List.getElem_toArray, List.getElem_cons_zero, List.getElem_cons_succ, Act.put, List.setIfInBounds_toArray, List.set_cons_zero, List.set_cons_succ]
    refine' wpAnyK_takeL (i := 3) (v := _) rfl (by as_aux_lemma => kernel_rfl) (by as_aux_lemma => kernel_rfl) (by as_aux_lemma => kernel_rfl) (by as_aux_lemma => kernel_rfl) (fun _ _ _ h => h) (Or.inl ⟨by rfl, ?yT69⟩) hHeld ?rT69
    case yT69 => (intro w' hSw; (try dsimp only at hSw); go_simp; try with_reducible rfl)
    try simp only [List.getElem_toArray, List.getElem_cons_zero, List.getElem_cons_succ, Act.put, List.setIfInBounds_toArray, List.set_cons_zero, List.set_cons_succ]
    refine' wpAnyK_takeL (i := 4) (v := _) rfl (by as_aux_lemma => kernel_rfl) (by as_aux_lemma => kernel_rfl) (by as_aux_lemma => kernel_rfl) (by as_aux_lemma => kernel_rfl) (fun _ _ _ h => h) (Or.inl ⟨by rfl, ?yT70⟩) hHeld ?rT70
    case yT70 => (intro w' hSw; (try dsimp only at hSw); go_simp; try with_reducible rfl)
    try simp only [List.getElem_toArray, List.getElem_cons_zero, List.getElem_cons_succ, Act.put, List.setIfInBounds_toArray, List.set_cons_zero, List.set_cons_succ]
    clear hHeld
    refine wpFl_start (f := 8) (slot := 16) (Bx := FlB (w12.heap.size)) (x0 := undef) (by rfl) ?_
    try simp only [List.getElem_toArray, List.getElem_cons_zero, List.getElem_cons_succ, Act.put, List.setIfInBounds_toArray, List.set_cons_zero, List.set_cons_succ]
    refine wpFl_step (f := 8) (slot := 16) (c := 2) (Z := (.cells #[.int .i64 0, .slice none 0 0] 25)) (F := fun u => Below (w12.heap.size) w12 u) (Bx := FlB (w12.heap.size)) rfl rfl (by decide) (by as_aux_lemma => kernel_rfl) (by as_aux_lemma => kernel_rfl) ?al71 ?bx71 ?hs71 ?f71 ?st71 ?step71
    case al71 => as_aux_lemma => (intro u K h; (try dsimp only at h ⊢); go_simp; exact h)
    case bx71 => as_aux_lemma => (rintro u hd; exact FlB.new hd.size)
    case hs71 => as_aux_lemma =>
      rintro u hd
      obtain ⟨qs_XB121_0, qs_XB121_1⟩ := XB12.1.below hd (Nat.le_refl _)
      obtain ⟨qs_YB121_0, qs_YB121_1⟩ := YB12.1.below hd (Nat.le_refl _)
      obtain ⟨qs_TB121_0, qs_TB121_1⟩ := TB12.1.below hd (Nat.le_refl _)
      obtain ⟨qs_UB121_0, qs_UB121_1⟩ := UB12.1.below hd (Nat.le_refl _)
      go_keep
    case f71 => exact hd
    case st71 => as_aux_lemma => (rintro u hd; have hb : Below u.heap.size u (u.alloc (.cells #[.int .i64 0, .slice none 0 0] 25)) := (Below.refl _ _).alloc (Nat.le_refl _) _; exact hd.trans (hb.mono hd.size))
    case step71 =>
    clear hsd
    intro u0 x0 hd K hK
    have hsd := hd.size
    obtain ⟨q0_XB121_0, q0_XB121_1⟩ := XB12.1.below hd (Nat.le_refl _)
    obtain ⟨q0_YB121_0, q0_YB121_1⟩ := YB12.1.below hd (Nat.le_refl _)
    obtain ⟨q0_TB121_0, q0_TB121_1⟩ := TB12.1.below hd (Nat.le_refl _)
    obtain ⟨q0_UB121_0, q0_UB121_1⟩ := UB12.1.below hd (Nat.le_refl _)
    (try dsimp only)
    go_simp
    go_at_call 40
    refine (plusP_n m m n _ _ X Y _ ((X12).below hd (Nat.le_refl _)) ((Y12).below hd (Nat.le_refl _)) (by omega) (by omega) hm hm' (by first | assumption | exact timesT_ok (by omega) _ _ _ | exact addT_ok (by omega) _ _ _ | exact PlaT.sub (by omega) _ _ _ | exact PlaT.sca (by omega) _ _ _ | exact PlaT.one (by omega) _ | exact PlaT.inv (by omega) _ _ | exact hornT_ok (by omega) _ _ _ | exact PlaT.cln (by omega) _ _) (by first | assumption | exact timesT_ok (by omega) _ _ _ | exact addT_ok (by omega) _ _ _ | exact PlaT.sub (by omega) _ _ _ | exact PlaT.sca (by omega) _ _ _ | exact PlaT.one (by omega) _ | exact PlaT.inv (by omega) _ _ | exact hornT_ok (by omega) _ _ _ | exact PlaT.cln (by omega) _ _)).mono ?_
    rintro e v0 ⟨_, rfl, hA, hbA⟩
    obtain ⟨oA, cA, rfl⟩ := hA.shapeN (n := n) (tri_len _ _)
    go_wp2_with fail
    have hsd0 := hbA.size
    have hA := hA.mono (B' := w12.heap.size) hd.size
    have hd := hd.trans (hbA.mono hd.size)
    obtain ⟨q0n_XB121_0, q0n_XB121_1⟩ := XB12.1.below hd (Nat.le_refl _)
    obtain ⟨q0n_YB121_0, q0n_YB121_1⟩ := YB12.1.below hd (Nat.le_refl _)
    obtain ⟨q0n_TB121_0, q0n_TB121_1⟩ := TB12.1.below hd (Nat.le_refl _)
    obtain ⟨q0n_UB121_0, q0n_UB121_1⟩ := UB12.1.below hd (Nat.le_refl _)
    have hHeld : (fun w' : World => w'.cell? ⟨w3.heap.size, 0, none⟩ = some (.int .i64 m) ∧ w'.cell? ⟨w3.heap.size, 1, none⟩ = some (.slice ox n cx) ∧ w'.cell? ⟨w3.heap.size + 1, 0, none⟩ = some (.int .i64 m) ∧ w'.cell? ⟨w3.heap.size + 1, 1, none⟩ = some (.slice oy n cy) ∧ w'.cell? ⟨bT, 0, none⟩ = some (.int .i64 m) ∧ w'.cell? ⟨bT, 1, none⟩ = some (.slice oT n cT) ∧ w'.cell? ⟨bU, 0, none⟩ = some (.int .i64 m) ∧ w'.cell? ⟨bU, 1, none⟩ = some (.slice oU n cU)) v0 := by go_keep
    refine hK.out _ _ (FlB (w12.heap.size)) (by rfl) (fun b hb => hb.below hbA (Nat.le_refl _)) (fun _ => hHeld) ?_
    clear hK K hHeld
    try simp only [List.getElem_toArray, List.getElem_cons_zero, List.getElem_cons_succ, Act.put, List.setIfInBounds_toArray, List.set_cons_zero, List.set_cons_succ]
    refine wpFl_step (f := 8) (slot := 16) (c := 5) (Z := (.cells #[.int .i64 0, .slice none 0 0] 25)) (F := fun u => Below (w12.heap.size) w12 u ∧ OwS u (w12.heap.size) (.slice oA n cA) (addT m n X Y)) (Bx := FlB (w12.heap.size)) rfl rfl (by decide) (by as_aux_lemma => kernel_rfl) (by as_aux_lemma => kernel_rfl) ?al72 ?bx72 ?hs72 ?f72 ?st72 ?step72
    case al72 => as_aux_lemma => (intro u K h; (try dsimp only at h ⊢); go_simp; exact h)
    case bx72 => as_aux_lemma => (rintro u ⟨hd, hA⟩; exact FlB.new hd.size)
    case hs72 => as_aux_lemma =>
      rintro u ⟨hd, hA⟩
      obtain ⟨qs_XB121_0, qs_XB121_1⟩ := XB12.1.below hd (Nat.le_refl _)
      obtain ⟨qs_YB121_0, qs_YB121_1⟩ := YB12.1.below hd (Nat.le_refl _)
      obtain ⟨qs_TB121_0, qs_TB121_1⟩ := TB12.1.below hd (Nat.le_refl _)
      obtain ⟨qs_UB121_0, qs_UB121_1⟩ := UB12.1.below hd (Nat.le_refl _)
      go_keep
    case f72 => exact ⟨hd, hA⟩
    case st72 => as_aux_lemma => (rintro u ⟨hd, hA⟩; have hb : Below u.heap.size u (u.alloc (.cells #[.int .i64 0, .slice none 0 0] 25)) := (Below.refl _ _).alloc (Nat.le_refl _) _; exact ⟨hd.trans (hb.mono hd.size), hA.alloc _⟩)
    case step72 =>
    clear hsd
    rintro u1 x1 ⟨hd, hA⟩ K hK
    have hsd := hd.size
    obtain ⟨q1_XB121_0, q1_XB121_1⟩ := XB12.1.below hd (Nat.le_refl _)
    obtain ⟨q1_YB121_0, q1_YB121_1⟩ := YB12.1.below hd (Nat.le_refl _)
    obtain ⟨q1_TB121_0, q1_TB121_1⟩ := TB12.1.below hd (Nat.le_refl _)
    obtain ⟨q1_UB121_0, q1_UB121_1⟩ := UB12.1.below hd (Nat.le_refl _)
    (try dsimp only)
    go_simp
    go_at_call 42
    refine (inverted_c m n _ U _ ((U12).below hd (Nat.le_refl _)) (by omega) (by omega) hm hm' (by first | assumption | exact timesT_ok (by omega) _ _ _ | exact addT_ok (by omega) _ _ _ | exact PlaT.sub (by omega) _ _ _ | exact PlaT.sca (by omega) _ _ _ | exact PlaT.one (by omega) _ | exact PlaT.inv (by omega) _ _ | exact hornT_ok (by omega) _ _ _ | exact PlaT.cln (by omega) _ _)).mono ?_
    rintro e v1 ⟨_, rfl, hB, hbB⟩
    obtain ⟨oB, cB, rfl⟩ := hB.shapeN (n := n) ((PlaT.inv (show 0 < m by omega) n _).1)
    go_wp2_with fail
    have hsd1 := hbB.size
    have hA := hA.below hbB
    have hB := hB.mono (B' := w12.heap.size) hd.size
    have hd := hd.trans (hbB.mono hd.size)
    obtain ⟨q1n_XB121_0, q1n_XB121_1⟩ := XB12.1.below hd (Nat.le_refl _)
    obtain ⟨q1n_YB121_0, q1n_YB121_1⟩ := YB12.1.below hd (Nat.le_refl _)
    obtain ⟨q1n_TB121_0, q1n_TB121_1⟩ := TB12.1.below hd (Nat.le_refl _)
    obtain ⟨q1n_UB121_0, q1n_UB121_1⟩ := UB12.1.below hd (Nat.le_refl _)
    have hHeld : (fun w' : World => w'.cell? ⟨w3.heap.size, 0, none⟩ = some (.int .i64 m) ∧ w'.cell? ⟨w3.heap.size, 1, none⟩ = some (.slice ox n cx) ∧ w'.cell? ⟨w3.heap.size + 1, 0, none⟩ = some (.int .i64 m) ∧ w'.cell? ⟨w3.heap.size + 1, 1, none⟩ = some (.slice oy n cy) ∧ w'.cell? ⟨bT, 0, none⟩ = some (.int .i64 m) ∧ w'.cell? ⟨bT, 1, none⟩ = some (.slice oT n cT) ∧ w'.cell? ⟨bU, 0, none⟩ = some (.int .i64 m) ∧ w'.cell? ⟨bU, 1, none⟩ = some (.slice oU n cU)) v1 := by go_keep
    refine hK.out _ _ (FlB (w12.heap.size)) (by rfl) (fun b hb => hb.below hbB (Nat.le_refl _)) (fun _ => hHeld) ?_
    clear hK K hHeld
    try simp only [List.getElem_toArray, List.getElem_cons_zero, List.getElem_cons_succ, Act.put, List.setIfInBounds_toArray, List.set_cons_zero, List.set_cons_succ]
    refine wpFl_step (f := 8) (slot := 16) (c := 6) (Z := (.cells #[.int .i64 0, .slice none 0 0] 25)) (F := fun u => Below (w12.heap.size) w12 u ∧ OwS u (w12.heap.size) (.slice oA n cA) (addT m n X Y) ∧ OwS u (w12.heap.size) (.slice oB n cB) (invT m n U)) (Bx := FlB (w12.heap.size)) rfl rfl (by decide) (by as_aux_lemma => kernel_rfl) (by as_aux_lemma => kernel_rfl) ?al73 ?bx73 ?hs73 ?f73 ?st73 ?step73
    case al73 => as_aux_lemma => (intro u K h; (try dsimp only at h ⊢); go_simp; exact h)
    case bx73 => as_aux_lemma => (rintro u ⟨hd, hA, hB⟩; exact FlB.new hd.size)
    case hs73 => as_aux_lemma =>
      rintro u ⟨hd, hA, hB⟩
      obtain ⟨qs_XB121_0, qs_XB121_1⟩ := XB12.1.below hd (Nat.le_refl _)
      obtain ⟨qs_YB121_0, qs_YB121_1⟩ := YB12.1.below hd (Nat.le_refl _)
      obtain ⟨qs_TB121_0, qs_TB121_1⟩ := TB12.1.below hd (Nat.le_refl _)
      obtain ⟨qs_UB121_0, qs_UB121_1⟩ := UB12.1.below hd (Nat.le_refl _)
      go_keep
    case f73 => exact ⟨hd, hA, hB⟩
    case st73 => as_aux_lemma => (rintro u ⟨hd, hA, hB⟩; have hb : Below u.heap.size u (u.alloc (.cells #[.int .i64 0, .slice none 0 0] 25)) := (Below.refl _ _).alloc (Nat.le_refl _) _; exact ⟨hd.trans (hb.mono hd.size), hA.alloc _, hB.alloc _⟩)
    case step73 =>
    clear hsd
    rintro u2 x2 ⟨hd, hA, hB⟩ K hK
    have hsd := hd.size
    obtain ⟨q2_XB121_0, q2_XB121_1⟩ := XB12.1.below hd (Nat.le_refl _)
    obtain ⟨q2_YB121_0, q2_YB121_1⟩ := YB12.1.below hd (Nat.le_refl _)
    obtain ⟨q2_TB121_0, q2_TB121_1⟩ := TB12.1.below hd (Nat.le_refl _)
    obtain ⟨q2_UB121_0, q2_UB121_1⟩ := UB12.1.below hd (Nat.le_refl _)
    (try dsimp only)
    go_simp
    go_at_call 38
    refine (timesP_c m m n _ _ T (invT m n U) _ ((T12).below hd (Nat.le_refl _)) hB.rd (by omega) (by omega) hm (by omega) (by first | assumption | exact timesT_ok (by omega) _ _ _ | exact addT_ok (by omega) _ _ _ | exact PlaT.sub (by omega) _ _ _ | exact PlaT.sca (by omega) _ _ _ | exact PlaT.one (by omega) _ | exact PlaT.inv (by omega) _ _ | exact hornT_ok (by omega) _ _ _ | exact PlaT.cln (by omega) _ _) (by first | assumption | exact timesT_ok (by omega) _ _ _ | exact addT_ok (by omega) _ _ _ | exact PlaT.sub (by omega) _ _ _ | exact PlaT.sca (by omega) _ _ _ | exact PlaT.one (by omega) _ | exact PlaT.inv (by omega) _ _ | exact hornT_ok (by omega) _ _ _ | exact PlaT.cln (by omega) _ _)).mono ?_
    rintro e v2 ⟨_, rfl, hC, hbC⟩
    obtain ⟨oC, cC, rfl⟩ := hC.shapeN (n := n) (tri_len _ _)
    go_wp2_with fail
    have hsd2 := hbC.size
    clear hB
    have hA := hA.below hbC
    have hC := hC.mono (B' := w12.heap.size) hd.size
    have hd := hd.trans (hbC.mono hd.size)
    obtain ⟨q2n_XB121_0, q2n_XB121_1⟩ := XB12.1.below hd (Nat.le_refl _)
    obtain ⟨q2n_YB121_0, q2n_YB121_1⟩ := YB12.1.below hd (Nat.le_refl _)
    obtain ⟨q2n_TB121_0, q2n_TB121_1⟩ := TB12.1.below hd (Nat.le_refl _)
    obtain ⟨q2n_UB121_0, q2n_UB121_1⟩ := UB12.1.below hd (Nat.le_refl _)
    have hHeld : (fun w' : World => w'.cell? ⟨w3.heap.size, 0, none⟩ = some (.int .i64 m) ∧ w'.cell? ⟨w3.heap.size, 1, none⟩ = some (.slice ox n cx) ∧ w'.cell? ⟨w3.heap.size + 1, 0, none⟩ = some (.int .i64 m) ∧ w'.cell? ⟨w3.heap.size + 1, 1, none⟩ = some (.slice oy n cy) ∧ w'.cell? ⟨bT, 0, none⟩ = some (.int .i64 m) ∧ w'.cell? ⟨bT, 1, none⟩ = some (.slice oT n cT) ∧ w'.cell? ⟨bU, 0, none⟩ = some (.int .i64 m) ∧ w'.cell? ⟨bU, 1, none⟩ = some (.slice oU n cU)) v2 := by go_keep
    refine hK.out _ _ (FlB (w12.heap.size)) (by rfl) (fun b hb => hb.below hbC (Nat.le_refl _)) (fun _ => hHeld) ?_
    clear hK K hHeld
    try simp only [List.getElem_toArray, List.getElem_cons_zero, List.getElem_cons_succ, Act.put, List.setIfInBounds_toArray, List.set_cons_zero, List.set_cons_succ]
    refine wpFl_step (f := 8) (slot := 16) (c := 7) (Z := (.cells #[.int .i64 0, .slice none 0 0] 25)) (F := fun u => Below (w12.heap.size) w12 u ∧ OwS u (w12.heap.size) (.slice oA n cA) (addT m n X Y) ∧ OwS u (w12.heap.size) (.slice oC n cC) (timesT m n T (invT m n U))) (Bx := FlB (w12.heap.size)) rfl rfl (by decide) (by as_aux_lemma => kernel_rfl) (by as_aux_lemma => kernel_rfl) ?al74 ?bx74 ?hs74 ?f74 ?st74 ?step74
    case al74 => as_aux_lemma => (intro u K h; (try dsimp only at h ⊢); go_simp; exact h)
    case bx74 => as_aux_lemma => (rintro u ⟨hd, hA, hC⟩; exact FlB.new hd.size)
    case hs74 => as_aux_lemma =>
      rintro u ⟨hd, hA, hC⟩
      obtain ⟨qs_XB121_0, qs_XB121_1⟩ := XB12.1.below hd (Nat.le_refl _)
      obtain ⟨qs_YB121_0, qs_YB121_1⟩ := YB12.1.below hd (Nat.le_refl _)
      obtain ⟨qs_TB121_0, qs_TB121_1⟩ := TB12.1.below hd (Nat.le_refl _)
      obtain ⟨qs_UB121_0, qs_UB121_1⟩ := UB12.1.below hd (Nat.le_refl _)
      go_keep
    case f74 => exact ⟨hd, hA, hC⟩
    case st74 => as_aux_lemma => (rintro u ⟨hd, hA, hC⟩; have hb : Below u.heap.size u (u.alloc (.cells #[.int .i64 0, .slice none 0 0] 25)) := (Below.refl _ _).alloc (Nat.le_refl _) _; exact ⟨hd.trans (hb.mono hd.size), hA.alloc _, hC.alloc _⟩)
    case step74 =>
    clear hsd
    rintro u3 x3 ⟨hd, hA, hC⟩ K hK
    have hsd := hd.size
    obtain ⟨q3_XB121_0, q3_XB121_1⟩ := XB12.1.below hd (Nat.le_refl _)
    obtain ⟨q3_YB121_0, q3_YB121_1⟩ := YB12.1.below hd (Nat.le_refl _)
    obtain ⟨q3_TB121_0, q3_TB121_1⟩ := TB12.1.below hd (Nat.le_refl _)
    obtain ⟨q3_UB121_0, q3_UB121_1⟩ := UB12.1.below hd (Nat.le_refl _)
    (try dsimp only)
    go_simp
    go_at_call 40
    refine (plusP_n m m n _ _ (addT m n X Y) (timesT m n T (invT m n U)) _ hA.rd hC.rd (by omega) (by omega) hm hm' (by first | assumption | exact timesT_ok (by omega) _ _ _ | exact addT_ok (by omega) _ _ _ | exact PlaT.sub (by omega) _ _ _ | exact PlaT.sca (by omega) _ _ _ | exact PlaT.one (by omega) _ | exact PlaT.inv (by omega) _ _ | exact hornT_ok (by omega) _ _ _ | exact PlaT.cln (by omega) _ _) (by first | assumption | exact timesT_ok (by omega) _ _ _ | exact addT_ok (by omega) _ _ _ | exact PlaT.sub (by omega) _ _ _ | exact PlaT.sca (by omega) _ _ _ | exact PlaT.one (by omega) _ | exact PlaT.inv (by omega) _ _ | exact hornT_ok (by omega) _ _ _ | exact PlaT.cln (by omega) _ _)).mono ?_
    rintro e v3 ⟨_, rfl, hD, hbD⟩
    obtain ⟨oD, cD, rfl⟩ := hD.shapeN (n := n) (tri_len _ _)
    go_wp2_with fail
    have hsd3 := hbD.size
    have hrD := hD
    clear hA
    clear hC
    have hD := hD.mono (B' := w12.heap.size) hd.size
    have hd := hd.trans (hbD.mono hd.size)
    obtain ⟨q3n_XB121_0, q3n_XB121_1⟩ := XB12.1.below hd (Nat.le_refl _)
    obtain ⟨q3n_YB121_0, q3n_YB121_1⟩ := YB12.1.below hd (Nat.le_refl _)
    obtain ⟨q3n_TB121_0, q3n_TB121_1⟩ := TB12.1.below hd (Nat.le_refl _)
    obtain ⟨q3n_UB121_0, q3n_UB121_1⟩ := UB12.1.below hd (Nat.le_refl _)
    have hHeld : (fun w' : World => w'.cell? ⟨w3.heap.size, 0, none⟩ = some (.int .i64 m) ∧ w'.cell? ⟨w3.heap.size, 1, none⟩ = some (.slice ox n cx) ∧ w'.cell? ⟨w3.heap.size + 1, 0, none⟩ = some (.int .i64 m) ∧ w'.cell? ⟨w3.heap.size + 1, 1, none⟩ = some (.slice oy n cy) ∧ w'.cell? ⟨bT, 0, none⟩ = some (.int .i64 m) ∧ w'.cell? ⟨bT, 1, none⟩ = some (.slice oT n cT) ∧ w'.cell? ⟨bU, 0, none⟩ = some (.int .i64 m) ∧ w'.cell? ⟨bU, 1, none⟩ = some (.slice oU n cU)) v3 := by go_keep
    refine hK.out _ _ (FlE (w12.heap.size) (fun w => RdT w (.slice oD n cD) (addT m n (addT m n X Y) (timesT m n T (invT m n U))))) (by rfl) (fun b hb => ⟨hb.below hbD (Nat.le_refl _), hrD.flOld hb.lt⟩) (fun _ => hHeld) ?_
    clear hK K hHeld
    try simp only [List.getElem_toArray, List.getElem_cons_zero, List.getElem_cons_succ, Act.put, List.setIfInBounds_toArray, List.set_cons_zero, List.set_cons_succ]
    clear hsd
    have hsd := hd.size
    refine wpFl_end (f := 8) (Z := (.cells #[.int .i64 0, .slice none 0 0] 25)) (F := fun u => Below (w12.heap.size) w12 u ∧ OwS u (w12.heap.size) (.slice oD n cD) (addT m n (addT m n X Y) (timesT m n T (invT m n U)))) rfl (by as_aux_lemma => kernel_rfl) ?al75 ?bx75 ?hs75 ?f75 ?st75 ?H75
    case al75 => as_aux_lemma => (intro u K h; (try dsimp only at h ⊢); go_simp; exact h)
    case bx75 => as_aux_lemma => (rintro u ⟨hd, hD⟩; exact ⟨FlB.new hd.size, hD.flNew _⟩)
    case hs75 => as_aux_lemma =>
      rintro u ⟨hd, hD⟩
      obtain ⟨qs_XB121_0, qs_XB121_1⟩ := XB12.1.below hd (Nat.le_refl _)
      obtain ⟨qs_YB121_0, qs_YB121_1⟩ := YB12.1.below hd (Nat.le_refl _)
      obtain ⟨qs_TB121_0, qs_TB121_1⟩ := TB12.1.below hd (Nat.le_refl _)
      obtain ⟨qs_UB121_0, qs_UB121_1⟩ := UB12.1.below hd (Nat.le_refl _)
      go_keep
    case f75 => exact ⟨hd, hD⟩
    case st75 => as_aux_lemma => (rintro u ⟨hd, hD⟩; have hb : Below u.heap.size u (u.alloc (.cells #[.int .i64 0, .slice none 0 0] 25)) := (Below.refl _ _).alloc (Nat.le_refl _) _; exact ⟨hd.trans (hb.mono hd.size), hD.alloc _⟩)
    case H75 =>
    rintro u b ⟨hd, hD⟩ ⟨hB, hP⟩
    obtain ⟨⟨z0, z1⟩, zf⟩ := id hB.1
    (try dsimp only)
    refine wpAnyK_oneL (i := 9) rfl (by as_aux_lemma => kernel_rfl) (fun K hK => ?_)
    go_simp
    (try go_wp2_with fail)
    refine hK.out _ _ (fun h => absurd h (by decide)) ?_
    clear hK K
    try simp only [List.getElem_toArray, List.getElem_cons_zero, List.getElem_cons_succ, Act.put, List.setIfInBounds_toArray, List.set_cons_zero, List.set_cons_succ]
    refine wpAnyK_done (by as_aux_lemma => kernel_rfl) ?_ _
    go_wp2_with fail
    go_meet
    exact ⟨b, oD, cD, rfl, hB.1.put _ _, hP _ _, (hd.setCell hB.2 _).setCell hB.2 _⟩
  case rest =>
  obtain ⟨w13, rfl⟩ : ∃ u, u = wc := ⟨_, rfl⟩
  obtain ⟨bM, oM, cM, rfl, RbM, hbM, hb⟩ := hcut
  obtain ⟨M, hM_⟩ : ∃ M, M = addT m n (addT m n X Y) (timesT m n T (invT m n U)) := ⟨_, rfl⟩
  rw [← hM_] at hbM
  have HM : PlaT m n M := by rw [hM_]; exact (by first | assumption | exact timesT_ok (by omega) _ _ _ | exact addT_ok (by omega) _ _ _ | exact PlaT.sub (by omega) _ _ _ | exact PlaT.sca (by omega) _ _ _ | exact PlaT.one (by omega) _ | exact PlaT.inv (by omega) _ _ | exact hornT_ok (by omega) _ _ _ | exact PlaT.cln (by omega) _ _)
  have HMd := Lib.hid hM_
  clear hM_
  (have R13 := R12.below hb (Nat.le_refl _); have hv13 := hv12.below hb (Nat.le_refl _); have CW13 := CW12.below hb (Nat.le_refl _); have CB13 := CB12.below hb (Nat.le_refl _); have B13 := B12.trans (hb.mono B12.size); clear R12 hv12 CW12 CB12 B12)
  clear hb
  have MB13 := RbM
  have M13 := hbM
  clear RbM hbM
  have lM := MB13.1.lt
  obtain ⟨⟨y0, y1⟩, -⟩ := id MB13
  go_wp2_with fail
  clear y0 y1
  refine (scaledP_n m (-1) n _ M _ M13 (by omega) (by omega) hm hm' HM (by omega) (by omega)).mono ?_
  rintro e w14 ⟨v14, rfl, h14, hb⟩
  obtain ⟨oN, cN, rfl⟩ := h14.shapeN (n := n) (tri_len _ _)
  (have R14 := R13.below hb (Nat.le_refl _); have hv14 := hv13.below hb (Nat.le_refl _); have CW14 := CW13.below hb (Nat.le_refl _); have CB14 := CB13.below hb (Nat.le_refl _); have M14 := M13.below hb (Nat.le_refl _); have MB14 := MB13.below hb (Nat.le_refl _); have B14 := B13.trans (hb.mono B13.size); clear R13 hv13 CW13 CB13 M13 MB13 B13)
  clear hb
  have N14 := h14.rd
  clear h14
  obtain ⟨N, hN_⟩ : ∃ N, N = scaT m n (-1) M := ⟨_, rfl⟩
  rw [← hN_] at N14
  have HN : PlaT m n N := by rw [hN_]; exact (by first | assumption | exact timesT_ok (by omega) _ _ _ | exact addT_ok (by omega) _ _ _ | exact PlaT.sub (by omega) _ _ _ | exact PlaT.sca (by omega) _ _ _ | exact PlaT.one (by omega) _ | exact PlaT.inv (by omega) _ _ | exact hornT_ok (by omega) _ _ _ | exact PlaT.cln (by omega) _ _)
  have HNd := Lib.hid hN_
  clear hN_
  go_wp2_with fail
  (have NB15 := (RB2.mk1 w14  (.int .i64 m) (.slice oN n cN) 25).below (w' := (w14.alloc (.cells #[.int .i64 m, .slice oN n cN] 25))) (by (repeat (first | exact Below.refl _ _ | (refine Below.setCell ?_ (by first | (simp; done) | (simp; omega) | omega) _) | (refine Below.alloc ?_ (by first | (simp; done) | (simp; omega) | omega) _) | (refine below_drewN ?_ _) | (refine Below.drew ?_)))) (Nat.le_refl _); have hb : Below w14.heap.size w14 (w14.alloc (.cells #[.int .i64 m, .slice oN n cN] 25)) := (by (repeat (first | exact Below.refl _ _ | (refine Below.setCell ?_ (by first | (simp; done) | (simp; omega) | omega) _) | (refine Below.alloc ?_ (by first | (simp; done) | (simp; omega) | omega) _) | (refine below_drewN ?_ _) | (refine Below.drew ?_)))); have R15 := R14.below hb (Nat.le_refl _); have hv15 := hv14.below hb (Nat.le_refl _); have CW15 := CW14.below hb (Nat.le_refl _); have CB15 := CB14.below hb (Nat.le_refl _); have M15 := M14.below hb (Nat.le_refl _); have MB15 := MB14.below hb (Nat.le_refl _); have N15 := N14.below hb (Nat.le_refl _); have B15 := B14.trans (hb.mono B14.size); have hl_w15 := hb.size; clear hb R14 hv14 CW14 CB14 M14 MB14 N14 B14; generalize w14.alloc (.cells #[.int .i64 m, .slice oN n cN] 25) = w15 at hl_w15 B15 NB15 R15 hv15 CW15 CB15 M15 MB15 N15 ⊢)
  have lN := NB15.1.lt
  have lM15 := MB15.1.lt
  have lC15 := CB15.1.lt
  have lR15 := R15.1.lt
  have R15n := R1lt
  have hd0 : Below w15.heap.size w15 w15.drew := (Below.refl _ _).drew
  have hsd0 := hd0.size
  obtain ⟨m0_0, m0_1⟩ := ((MB15.1).below (Below.refl w15.heap.size w15) (Nat.le_refl _))
  obtain ⟨n0_0, n0_1⟩ := ((NB15.1).below (Below.refl w15.heap.size w15) (Nat.le_refl _))
  obtain ⟨c0_0, c0_1⟩ := ((CB15.1).below (Below.refl w15.heap.size w15) (Nat.le_refl _))
  have a0_0 := (((hv15).below (Below.refl w15.heap.size w15) (Nat.le_refl _))).cellz (some_at0 (show 0 < ls.length by have := HL.out; omega))
  have a0_2 := (((hv15).below (Below.refl w15.heap.size w15) (Nat.le_refl _))).cell0 (some_at0 (show 2 < ls.length by have := HL.out; omega))
  obtain ⟨⟨r0_0, r0_1⟩, rf0⟩ := ((R15).below (Below.refl w15.heap.size w15) (Nat.le_refl _))
  refine wp_region_K (S := fun w' => w'.cell? ⟨bM, 0, none⟩ = some (.int .i64 m) ∧ w'.cell? ⟨bM, 1, none⟩ = some (.slice oM n cM) ∧ w'.cell? ⟨w14.heap.size, 0, none⟩ = some (.int .i64 m) ∧ w'.cell? ⟨w14.heap.size, 1, none⟩ = some (.slice oN n cN) ∧ w'.cell? ⟨w1.heap.size + 1, 0, none⟩ = some (.int .i64 m) ∧ w'.cell? ⟨w1.heap.size + 1, 1, none⟩ = some (.slice (some ⟨gW, 0, none⟩) n cW) ∧ w'.cell? ⟨bl, fl, none⟩ = some (.int .i64 (at0 ls 0)) ∧ w'.cell? ⟨bl, fl + 2, none⟩ = some (.int .i64 (at0 ls 2))) [19] (by kernel_rfl) ?_
  have hHeld : (fun w' : World => w'.cell? ⟨bM, 0, none⟩ = some (.int .i64 m) ∧ w'.cell? ⟨bM, 1, none⟩ = some (.slice oM n cM) ∧ w'.cell? ⟨w14.heap.size, 0, none⟩ = some (.int .i64 m) ∧ w'.cell? ⟨w14.heap.size, 1, none⟩ = some (.slice oN n cN) ∧ w'.cell? ⟨w1.heap.size + 1, 0, none⟩ = some (.int .i64 m) ∧ w'.cell? ⟨w1.heap.size + 1, 1, none⟩ = some (.slice (some ⟨gW, 0, none⟩) n cW) ∧ w'.cell? ⟨bl, fl, none⟩ = some (.int .i64 (at0 ls 0)) ∧ w'.cell? ⟨bl, fl + 2, none⟩ = some (.int .i64 (at0 ls 2))) w15.drew := by go_keep
  refine' wpAnyK_takeL (i := 0) (v := _) rfl (by kernel_rfl) (by kernel_rfl) (by kernel_rfl) (by kernel_rfl) (fun _ _ _ h => h) (Or.inl ⟨by rfl, ?yT76⟩) hHeld ?rT76
  case yT76 => (intro w' hSw; (try dsimp only at hSw); go_simp; try with_reducible rfl)
  try simp only [List.getElem_toArray, List.getElem_cons_zero, List.getElem_cons_succ, Act.put, List.setIfInBounds_toArray, List.set_cons_zero, List.set_cons_succ]
  refine' wpAnyK_takeL (i := 1) (v := _) rfl (by kernel_rfl) (by kernel_rfl) (by kernel_rfl) (by kernel_rfl) (fun _ _ _ h => h) (Or.inl ⟨by rfl, ?yT77⟩) hHeld ?rT77
  case yT77 => (intro w' hSw; (try dsimp only at hSw); go_simp; try with_reducible rfl)
  try simp only [List.getElem_toArray, List.getElem_cons_zero, List.getElem_cons_succ, Act.put, List.setIfInBounds_toArray, List.set_cons_zero, List.set_cons_succ]
  refine' wpAnyK_takeL (i := 3) (v := _) rfl (by kernel_rfl) (by kernel_rfl) (by kernel_rfl) (by kernel_rfl) (fun _ _ _ h => h) (Or.inl ⟨by rfl, ?yT78⟩) hHeld ?rT78
  case yT78 => (intro w' hSw; (try dsimp only at hSw); go_simp; try with_reducible rfl)
  try simp only [List.getElem_toArray, List.getElem_cons_zero, List.getElem_cons_succ, Act.put, List.setIfInBounds_toArray, List.set_cons_zero, List.set_cons_succ]
  refine' wpAnyK_takeL (i := 4) (v := _) rfl (by kernel_rfl) (by kernel_rfl) (by kernel_rfl) (by kernel_rfl) (fun _ _ _ h => h) (Or.inl ⟨by rfl, ?yT79⟩) hHeld ?rT79
  case yT79 => (intro w' hSw; (try dsimp only at hSw); go_simp; try with_reducible rfl)
  try simp only [List.getElem_toArray, List.getElem_cons_zero, List.getElem_cons_succ, Act.put, List.setIfInBounds_toArray, List.set_cons_zero, List.set_cons_succ]
  refine' wpAnyK_takeL (i := 5) (v := _) rfl (by kernel_rfl) (by kernel_rfl) (by kernel_rfl) (by kernel_rfl) (fun _ _ _ h => h) (Or.inl ⟨by rfl, ?yT80⟩) hHeld ?rT80
  case yT80 => (intro w' hSw; (try dsimp only at hSw); go_simp; try with_reducible rfl)
  try simp only [List.getElem_toArray, List.getElem_cons_zero, List.getElem_cons_succ, Act.put, List.setIfInBounds_toArray, List.set_cons_zero, List.set_cons_succ]
  refine' wpAnyK_takeL (i := 6) (v := _) rfl (by kernel_rfl) (by kernel_rfl) (by kernel_rfl) (by kernel_rfl) (fun _ _ _ h => h) (Or.inl ⟨by rfl, ?yT81⟩) hHeld ?rT81
  case yT81 => (intro w' hSw; (try dsimp only at hSw); go_simp; try with_reducible rfl)
  try simp only [List.getElem_toArray, List.getElem_cons_zero, List.getElem_cons_succ, Act.put, List.setIfInBounds_toArray, List.set_cons_zero, List.set_cons_succ]
  refine' wpAnyK_takeL (i := 9) (v := _) rfl (by kernel_rfl) (by kernel_rfl) (by kernel_rfl) (by kernel_rfl) (fun _ _ _ h => h) (Or.inl ⟨by rfl, ?yT82⟩) hHeld ?rT82
  case yT82 => (intro w' hSw; (try dsimp only at hSw); go_simp; try with_reducible rfl)
  try simp only [List.getElem_toArray, List.getElem_cons_zero, List.getElem_cons_succ, Act.put, List.setIfInBounds_toArray, List.set_cons_zero, List.set_cons_succ]
  refine' wpAnyK_takeL (i := 10) (v := _) rfl (by kernel_rfl) (by kernel_rfl) (by kernel_rfl) (by kernel_rfl) (fun _ _ _ h => h) (Or.inl ⟨by rfl, ?yT83⟩) hHeld ?rT83
  case yT83 => (intro w' hSw; (try dsimp only at hSw); go_simp; try with_reducible rfl)
  try simp only [List.getElem_toArray, List.getElem_cons_zero, List.getElem_cons_succ, Act.put, List.setIfInBounds_toArray, List.set_cons_zero, List.set_cons_succ]
  refine' wpAnyK_takeL (i := 12) (v := _) rfl (by kernel_rfl) (by kernel_rfl) (by kernel_rfl) (by kernel_rfl) (fun _ _ _ h => h) (Or.inl ⟨by rfl, ?yT84⟩) hHeld ?rT84
  case yT84 => (intro w' hSw; (try dsimp only at hSw); go_simp; try with_reducible rfl)
  try simp only [List.getElem_toArray, List.getElem_cons_zero, List.getElem_cons_succ, Act.put, List.setIfInBounds_toArray, List.set_cons_zero, List.set_cons_succ]
  refine' wpAnyK_takeL (i := 13) (v := _) rfl (by kernel_rfl) (by kernel_rfl) (by kernel_rfl) (by kernel_rfl) (fun _ _ _ h => h) (Or.inl ⟨by rfl, ?yT85⟩) hHeld ?rT85
  case yT85 => (intro w' hSw; (try dsimp only at hSw); go_simp; try with_reducible rfl)
  try simp only [List.getElem_toArray, List.getElem_cons_zero, List.getElem_cons_succ, Act.put, List.setIfInBounds_toArray, List.set_cons_zero, List.set_cons_succ]
  refine' wpAnyK_takeL (i := 14) (v := _) rfl (by kernel_rfl) (by kernel_rfl) (by kernel_rfl) (by kernel_rfl) (fun _ _ _ h => h) (Or.inl ⟨by rfl, ?yT86⟩) hHeld ?rT86
  case yT86 => (intro w' hSw; (try dsimp only at hSw); go_simp; try with_reducible rfl)
  try simp only [List.getElem_toArray, List.getElem_cons_zero, List.getElem_cons_succ, Act.put, List.setIfInBounds_toArray, List.set_cons_zero, List.set_cons_succ]
  refine wpAnyK_oneL (i := 2) rfl (by kernel_rfl) (fun K hK => ?_)
  go_simp
  go_at_call 41
  refine (one_n m oN n cN _ (by omega) (by omega) hm hm').mono ?_
  rintro e wd1 ⟨_, rfl, hod1, hbd1⟩
  have hsq1 := hbd1.size; obtain ⟨oA, cA, rfl⟩ := hod1.shapeN (n := n) (tri_len _ _)
  have hd1 : Below w15.heap.size w15 wd1 := (by (repeat (first | exact Below.refl _ _ | (refine Below.setCell ?_ (by first | (simp; done) | (simp; omega) | omega) _) | (refine Below.alloc ?_ (by first | (simp; done) | (simp; omega) | omega) _) | (refine below_drewN ?_ _) | (refine Below.drew ?_) | (refine Below.trans ?_ (Below.mono hbd1 (by first | (simp; done) | (simp; omega) | omega))))))
  have hsd1 := hd1.size
  have hsz1_ := hbd1.size
  (try simp at hsz1_)
  obtain ⟨m1_0, m1_1⟩ := ((MB15.1).below hd1 (Nat.le_refl _))
  obtain ⟨n1_0, n1_1⟩ := ((NB15.1).below hd1 (Nat.le_refl _))
  obtain ⟨c1_0, c1_1⟩ := ((CB15.1).below hd1 (Nat.le_refl _))
  have a1_0 := (((hv15).below hd1 (Nat.le_refl _))).cellz (some_at0 (show 0 < ls.length by have := HL.out; omega))
  have a1_2 := (((hv15).below hd1 (Nat.le_refl _))).cell0 (some_at0 (show 2 < ls.length by have := HL.out; omega))
  obtain ⟨⟨r1_0, r1_1⟩, rf1⟩ := ((R15).below hd1 (Nat.le_refl _))
  go_wp2_with fail
  clear hHeld
  have hHeld : (fun w' : World => w'.cell? ⟨bM, 0, none⟩ = some (.int .i64 m) ∧ w'.cell? ⟨bM, 1, none⟩ = some (.slice oM n cM) ∧ w'.cell? ⟨w14.heap.size, 0, none⟩ = some (.int .i64 m) ∧ w'.cell? ⟨w14.heap.size, 1, none⟩ = some (.slice oN n cN) ∧ w'.cell? ⟨w1.heap.size + 1, 0, none⟩ = some (.int .i64 m) ∧ w'.cell? ⟨w1.heap.size + 1, 1, none⟩ = some (.slice (some ⟨gW, 0, none⟩) n cW) ∧ w'.cell? ⟨bl, fl, none⟩ = some (.int .i64 (at0 ls 0)) ∧ w'.cell? ⟨bl, fl + 2, none⟩ = some (.int .i64 (at0 ls 2))) wd1 := by go_keep
  refine hK.out _ _ (fun _ => hHeld) ?_
  clear hK K
  try simp only [List.getElem_toArray, List.getElem_cons_zero, List.getElem_cons_succ, Act.put, List.setIfInBounds_toArray, List.set_cons_zero, List.set_cons_succ]
  refine wpAnyK_oneL (i := 7) rfl (by kernel_rfl) (fun K hK => ?_)
  go_simp
  go_at_call 39
  refine (scaledP_n m (at0 ls 0) n _ N _ ((N15).below (by (repeat (first | exact Below.refl _ _ | (refine Below.setCell ?_ (by first | (simp; done) | (simp; omega) | omega) _) | (refine Below.alloc ?_ (by first | (simp; done) | (simp; omega) | omega) _) | (refine below_drewN ?_ _) | (refine Below.drew ?_) | (refine Below.trans ?_ (Below.mono hbd1 (by first | (simp; done) | (simp; omega) | omega)))))) (Nat.le_refl _)) (by omega) (by omega) hm hm' HN (by omega) (by omega)).mono ?_
  rintro e wd2 ⟨_, rfl, hod2, hbd2⟩
  have hsq2 := hbd2.size; obtain ⟨oB, cB, rfl⟩ := hod2.shapeN (n := n) (tri_len _ _)
  have hd2 : Below w15.heap.size w15 wd2 := (by (repeat (first | exact Below.refl _ _ | (refine Below.setCell ?_ (by first | (simp; done) | (simp; omega) | omega) _) | (refine Below.alloc ?_ (by first | (simp; done) | (simp; omega) | omega) _) | (refine below_drewN ?_ _) | (refine Below.drew ?_) | (refine Below.trans ?_ (Below.mono hbd1 (by first | (simp; done) | (simp; omega) | omega))) | (refine Below.trans ?_ (Below.mono hbd2 (by first | (simp; done) | (simp; omega) | omega))))))
  have hsd2 := hd2.size
  have hsz2_ := hbd2.size
  (try simp at hsz2_)
  obtain ⟨m2_0, m2_1⟩ := ((MB15.1).below hd2 (Nat.le_refl _))
  obtain ⟨n2_0, n2_1⟩ := ((NB15.1).below hd2 (Nat.le_refl _))
  obtain ⟨c2_0, c2_1⟩ := ((CB15.1).below hd2 (Nat.le_refl _))
  have a2_0 := (((hv15).below hd2 (Nat.le_refl _))).cellz (some_at0 (show 0 < ls.length by have := HL.out; omega))
  have a2_2 := (((hv15).below hd2 (Nat.le_refl _))).cell0 (some_at0 (show 2 < ls.length by have := HL.out; omega))
  obtain ⟨⟨r2_0, r2_1⟩, rf2⟩ := ((R15).below hd2 (Nat.le_refl _))
  go_wp2_with fail
  clear hHeld
  have hHeld : (fun w' : World => w'.cell? ⟨bM, 0, none⟩ = some (.int .i64 m) ∧ w'.cell? ⟨bM, 1, none⟩ = some (.slice oM n cM) ∧ w'.cell? ⟨w14.heap.size, 0, none⟩ = some (.int .i64 m) ∧ w'.cell? ⟨w14.heap.size, 1, none⟩ = some (.slice oN n cN) ∧ w'.cell? ⟨w1.heap.size + 1, 0, none⟩ = some (.int .i64 m) ∧ w'.cell? ⟨w1.heap.size + 1, 1, none⟩ = some (.slice (some ⟨gW, 0, none⟩) n cW) ∧ w'.cell? ⟨bl, fl, none⟩ = some (.int .i64 (at0 ls 0)) ∧ w'.cell? ⟨bl, fl + 2, none⟩ = some (.int .i64 (at0 ls 2))) wd2 := by go_keep
  refine hK.out _ _ (fun _ => hHeld) ?_
  clear hK K
  try simp only [List.getElem_toArray, List.getElem_cons_zero, List.getElem_cons_succ, Act.put, List.setIfInBounds_toArray, List.set_cons_zero, List.set_cons_succ]
  refine wpAnyK_oneL (i := 8) rfl (by kernel_rfl) (fun K hK => ?_)
  go_simp
  go_at_call 37
  refine (minusP_n m m n _ _ (oneT m n) (scaT m n (at0 ls 0) N) _ ((hod1.below (by (repeat (first | exact Below.refl _ _ | (refine Below.setCell ?_ (by first | (simp; done) | (simp; omega) | omega) _) | (refine Below.alloc ?_ (by first | (simp; done) | (simp; omega) | omega) _) | (refine below_drewN ?_ _) | (refine Below.drew ?_) | (refine Below.trans ?_ (Below.mono hbd2 (by first | (simp; done) | (simp; omega) | omega)))))))).rd ((hod2.below (by (repeat (first | exact Below.refl _ _ | (refine Below.setCell ?_ (by first | (simp; done) | (simp; omega) | omega) _) | (refine Below.alloc ?_ (by first | (simp; done) | (simp; omega) | omega) _) | (refine below_drewN ?_ _) | (refine Below.drew ?_)))))).rd (by omega) (by omega) hm hm' (by first | assumption | exact timesT_ok (by omega) _ _ _ | exact addT_ok (by omega) _ _ _ | exact PlaT.sub (by omega) _ _ _ | exact PlaT.sca (by omega) _ _ _ | exact PlaT.one (by omega) _ | exact PlaT.inv (by omega) _ _ | exact hornT_ok (by omega) _ _ _ | exact PlaT.cln (by omega) _ _) (by first | assumption | exact timesT_ok (by omega) _ _ _ | exact addT_ok (by omega) _ _ _ | exact PlaT.sub (by omega) _ _ _ | exact PlaT.sca (by omega) _ _ _ | exact PlaT.one (by omega) _ | exact PlaT.inv (by omega) _ _ | exact hornT_ok (by omega) _ _ _ | exact PlaT.cln (by omega) _ _)).mono ?_
  rintro e wd3 ⟨_, rfl, hod3, hbd3⟩
  have hsq3 := hbd3.size; obtain ⟨oC, cC, rfl⟩ := hod3.shapeN (n := n) (tri_len _ _)
  have hd3 : Below w15.heap.size w15 wd3 := (by (repeat (first | exact Below.refl _ _ | (refine Below.setCell ?_ (by first | (simp; done) | (simp; omega) | omega) _) | (refine Below.alloc ?_ (by first | (simp; done) | (simp; omega) | omega) _) | (refine below_drewN ?_ _) | (refine Below.drew ?_) | (refine Below.trans ?_ (Below.mono hbd1 (by first | (simp; done) | (simp; omega) | omega))) | (refine Below.trans ?_ (Below.mono hbd2 (by first | (simp; done) | (simp; omega) | omega))) | (refine Below.trans ?_ (Below.mono hbd3 (by first | (simp; done) | (simp; omega) | omega))))))
  have hsd3 := hd3.size
  have hsz3_ := hbd3.size
  (try simp at hsz3_)
  obtain ⟨m3_0, m3_1⟩ := ((MB15.1).below hd3 (Nat.le_refl _))
  obtain ⟨n3_0, n3_1⟩ := ((NB15.1).below hd3 (Nat.le_refl _))
  obtain ⟨c3_0, c3_1⟩ := ((CB15.1).below hd3 (Nat.le_refl _))
  have a3_0 := (((hv15).below hd3 (Nat.le_refl _))).cellz (some_at0 (show 0 < ls.length by have := HL.out; omega))
  have a3_2 := (((hv15).below hd3 (Nat.le_refl _))).cell0 (some_at0 (show 2 < ls.length by have := HL.out; omega))
  obtain ⟨⟨r3_0, r3_1⟩, rf3⟩ := ((R15).below hd3 (Nat.le_refl _))
  go_wp2_with fail
  clear hHeld
  have hHeld : (fun w' : World => w'.cell? ⟨bM, 0, none⟩ = some (.int .i64 m) ∧ w'.cell? ⟨bM, 1, none⟩ = some (.slice oM n cM) ∧ w'.cell? ⟨w14.heap.size, 0, none⟩ = some (.int .i64 m) ∧ w'.cell? ⟨w14.heap.size, 1, none⟩ = some (.slice oN n cN) ∧ w'.cell? ⟨w1.heap.size + 1, 0, none⟩ = some (.int .i64 m) ∧ w'.cell? ⟨w1.heap.size + 1, 1, none⟩ = some (.slice (some ⟨gW, 0, none⟩) n cW) ∧ w'.cell? ⟨bl, fl, none⟩ = some (.int .i64 (at0 ls 0)) ∧ w'.cell? ⟨bl, fl + 2, none⟩ = some (.int .i64 (at0 ls 2))) wd3 := by go_keep
  refine hK.out _ _ (fun _ => hHeld) ?_
  clear hK K
  try simp only [List.getElem_toArray, List.getElem_cons_zero, List.getElem_cons_succ, Act.put, List.setIfInBounds_toArray, List.set_cons_zero, List.set_cons_succ]
  refine wpAnyK_oneL (i := 11) rfl (by kernel_rfl) (fun K hK => ?_)
  go_simp
  go_at_call 43
  refine (ofS_c m m n _ _ cw N _ ((CW15).below (by (repeat (first | exact Below.refl _ _ | (refine Below.setCell ?_ (by first | (simp; done) | (simp; omega) | omega) _) | (refine Below.alloc ?_ (by first | (simp; done) | (simp; omega) | omega) _) | (refine below_drewN ?_ _) | (refine Below.drew ?_) | (refine Below.trans ?_ (Below.mono hbd1 (by first | (simp; done) | (simp; omega) | omega))) | (refine Below.trans ?_ (Below.mono hbd2 (by first | (simp; done) | (simp; omega) | omega))) | (refine Below.trans ?_ (Below.mono hbd3 (by first | (simp; done) | (simp; omega) | omega)))))) (Nat.le_refl _)) ((N15).below (by (repeat (first | exact Below.refl _ _ | (refine Below.setCell ?_ (by first | (simp; done) | (simp; omega) | omega) _) | (refine Below.alloc ?_ (by first | (simp; done) | (simp; omega) | omega) _) | (refine below_drewN ?_ _) | (refine Below.drew ?_) | (refine Below.trans ?_ (Below.mono hbd1 (by first | (simp; done) | (simp; omega) | omega))) | (refine Below.trans ?_ (Below.mono hbd2 (by first | (simp; done) | (simp; omega) | omega))) | (refine Below.trans ?_ (Below.mono hbd3 (by first | (simp; done) | (simp; omega) | omega)))))) (Nat.le_refl _)) (by rw [HCW.1]; omega) (by rw [HCW.1]; omega) (by omega) (by omega) hm (by omega) HCW.2 HN).mono ?_
  rintro e wd4 ⟨_, rfl, hod4, hbd4⟩
  have hsq4 := hbd4.size; obtain ⟨oD, cD, rfl⟩ := hod4.shapeN (n := n) ((hornT_ok (show 0 < m by omega) n _ _).1)
  have hd4 : Below w15.heap.size w15 wd4 := (by (repeat (first | exact Below.refl _ _ | (refine Below.setCell ?_ (by first | (simp; done) | (simp; omega) | omega) _) | (refine Below.alloc ?_ (by first | (simp; done) | (simp; omega) | omega) _) | (refine below_drewN ?_ _) | (refine Below.drew ?_) | (refine Below.trans ?_ (Below.mono hbd1 (by first | (simp; done) | (simp; omega) | omega))) | (refine Below.trans ?_ (Below.mono hbd2 (by first | (simp; done) | (simp; omega) | omega))) | (refine Below.trans ?_ (Below.mono hbd3 (by first | (simp; done) | (simp; omega) | omega))) | (refine Below.trans ?_ (Below.mono hbd4 (by first | (simp; done) | (simp; omega) | omega))))))
  have hsd4 := hd4.size
  have hsz4_ := hbd4.size
  (try simp at hsz4_)
  obtain ⟨m4_0, m4_1⟩ := ((MB15.1).below hd4 (Nat.le_refl _))
  obtain ⟨n4_0, n4_1⟩ := ((NB15.1).below hd4 (Nat.le_refl _))
  obtain ⟨c4_0, c4_1⟩ := ((CB15.1).below hd4 (Nat.le_refl _))
  have a4_0 := (((hv15).below hd4 (Nat.le_refl _))).cellz (some_at0 (show 0 < ls.length by have := HL.out; omega))
  have a4_2 := (((hv15).below hd4 (Nat.le_refl _))).cell0 (some_at0 (show 2 < ls.length by have := HL.out; omega))
  obtain ⟨⟨r4_0, r4_1⟩, rf4⟩ := ((R15).below hd4 (Nat.le_refl _))
  go_wp2_with fail
  clear hHeld
  have hHeld : (fun w' : World => w'.cell? ⟨bM, 0, none⟩ = some (.int .i64 m) ∧ w'.cell? ⟨bM, 1, none⟩ = some (.slice oM n cM) ∧ w'.cell? ⟨w14.heap.size, 0, none⟩ = some (.int .i64 m) ∧ w'.cell? ⟨w14.heap.size, 1, none⟩ = some (.slice oN n cN) ∧ w'.cell? ⟨w1.heap.size + 1, 0, none⟩ = some (.int .i64 m) ∧ w'.cell? ⟨w1.heap.size + 1, 1, none⟩ = some (.slice (some ⟨gW, 0, none⟩) n cW) ∧ w'.cell? ⟨bl, fl, none⟩ = some (.int .i64 (at0 ls 0)) ∧ w'.cell? ⟨bl, fl + 2, none⟩ = some (.int .i64 (at0 ls 2))) wd4 := by go_keep
  refine hK.out _ _ (fun _ => hHeld) ?_
  clear hK K
  try simp only [List.getElem_toArray, List.getElem_cons_zero, List.getElem_cons_succ, Act.put, List.setIfInBounds_toArray, List.set_cons_zero, List.set_cons_succ]
  refine wpAnyK_oneL (i := 15) rfl (by kernel_rfl) (fun K hK => ?_)
  go_simp
  go_at_call 39
  refine (scaledP_n m (at0 ls 2) n _ (hornT m n N cw) _ ((hod4.below (by (repeat (first | exact Below.refl _ _ | (refine Below.setCell ?_ (by first | (simp; done) | (simp; omega) | omega) _) | (refine Below.alloc ?_ (by first | (simp; done) | (simp; omega) | omega) _) | (refine below_drewN ?_ _) | (refine Below.drew ?_)))))).rd (by omega) (by omega) hm hm' (by first | assumption | exact timesT_ok (by omega) _ _ _ | exact addT_ok (by omega) _ _ _ | exact PlaT.sub (by omega) _ _ _ | exact PlaT.sca (by omega) _ _ _ | exact PlaT.one (by omega) _ | exact PlaT.inv (by omega) _ _ | exact hornT_ok (by omega) _ _ _ | exact PlaT.cln (by omega) _ _) (by omega) (by omega)).mono ?_
  rintro e wd5 ⟨_, rfl, hod5, hbd5⟩
  have hsq5 := hbd5.size; obtain ⟨oE, cE, rfl⟩ := hod5.shapeN (n := n) (tri_len _ _)
  have hd5 : Below w15.heap.size w15 wd5 := (by (repeat (first | exact Below.refl _ _ | (refine Below.setCell ?_ (by first | (simp; done) | (simp; omega) | omega) _) | (refine Below.alloc ?_ (by first | (simp; done) | (simp; omega) | omega) _) | (refine below_drewN ?_ _) | (refine Below.drew ?_) | (refine Below.trans ?_ (Below.mono hbd1 (by first | (simp; done) | (simp; omega) | omega))) | (refine Below.trans ?_ (Below.mono hbd2 (by first | (simp; done) | (simp; omega) | omega))) | (refine Below.trans ?_ (Below.mono hbd3 (by first | (simp; done) | (simp; omega) | omega))) | (refine Below.trans ?_ (Below.mono hbd4 (by first | (simp; done) | (simp; omega) | omega))) | (refine Below.trans ?_ (Below.mono hbd5 (by first | (simp; done) | (simp; omega) | omega))))))
  have hsd5 := hd5.size
  have hsz5_ := hbd5.size
  (try simp at hsz5_)
  obtain ⟨m5_0, m5_1⟩ := ((MB15.1).below hd5 (Nat.le_refl _))
  obtain ⟨n5_0, n5_1⟩ := ((NB15.1).below hd5 (Nat.le_refl _))
  obtain ⟨c5_0, c5_1⟩ := ((CB15.1).below hd5 (Nat.le_refl _))
  have a5_0 := (((hv15).below hd5 (Nat.le_refl _))).cellz (some_at0 (show 0 < ls.length by have := HL.out; omega))
  have a5_2 := (((hv15).below hd5 (Nat.le_refl _))).cell0 (some_at0 (show 2 < ls.length by have := HL.out; omega))
  obtain ⟨⟨r5_0, r5_1⟩, rf5⟩ := ((R15).below hd5 (Nat.le_refl _))
  go_wp2_with fail
  clear hHeld
  have hHeld : (fun w' : World => w'.cell? ⟨bM, 0, none⟩ = some (.int .i64 m) ∧ w'.cell? ⟨bM, 1, none⟩ = some (.slice oM n cM) ∧ w'.cell? ⟨w14.heap.size, 0, none⟩ = some (.int .i64 m) ∧ w'.cell? ⟨w14.heap.size, 1, none⟩ = some (.slice oN n cN) ∧ w'.cell? ⟨w1.heap.size + 1, 0, none⟩ = some (.int .i64 m) ∧ w'.cell? ⟨w1.heap.size + 1, 1, none⟩ = some (.slice (some ⟨gW, 0, none⟩) n cW) ∧ w'.cell? ⟨bl, fl, none⟩ = some (.int .i64 (at0 ls 0)) ∧ w'.cell? ⟨bl, fl + 2, none⟩ = some (.int .i64 (at0 ls 2))) wd5 := by go_keep
  refine hK.out _ _ (fun _ => hHeld) ?_
  clear hK K
  try simp only [List.getElem_toArray, List.getElem_cons_zero, List.getElem_cons_succ, Act.put, List.setIfInBounds_toArray, List.set_cons_zero, List.set_cons_succ]
  refine wpAnyK_oneL (i := 16) rfl (by kernel_rfl) (fun K hK => ?_)
  go_simp
  go_at_call 37
  refine (minusP_n m m n _ _ (subT m n (oneT m n) (scaT m n (at0 ls 0) N)) (scaT m n (at0 ls 2) (hornT m n N cw)) _ ((hod3.below (by (repeat (first | exact Below.refl _ _ | (refine Below.setCell ?_ (by first | (simp; done) | (simp; omega) | omega) _) | (refine Below.alloc ?_ (by first | (simp; done) | (simp; omega) | omega) _) | (refine below_drewN ?_ _) | (refine Below.drew ?_) | (refine Below.trans ?_ (Below.mono hbd4 (by first | (simp; done) | (simp; omega) | omega))) | (refine Below.trans ?_ (Below.mono hbd5 (by first | (simp; done) | (simp; omega) | omega)))))))).rd ((hod5.below (by (repeat (first | exact Below.refl _ _ | (refine Below.setCell ?_ (by first | (simp; done) | (simp; omega) | omega) _) | (refine Below.alloc ?_ (by first | (simp; done) | (simp; omega) | omega) _) | (refine below_drewN ?_ _) | (refine Below.drew ?_)))))).rd (by omega) (by omega) hm hm' (by first | assumption | exact timesT_ok (by omega) _ _ _ | exact addT_ok (by omega) _ _ _ | exact PlaT.sub (by omega) _ _ _ | exact PlaT.sca (by omega) _ _ _ | exact PlaT.one (by omega) _ | exact PlaT.inv (by omega) _ _ | exact hornT_ok (by omega) _ _ _ | exact PlaT.cln (by omega) _ _) (by first | assumption | exact timesT_ok (by omega) _ _ _ | exact addT_ok (by omega) _ _ _ | exact PlaT.sub (by omega) _ _ _ | exact PlaT.sca (by omega) _ _ _ | exact PlaT.one (by omega) _ | exact PlaT.inv (by omega) _ _ | exact hornT_ok (by omega) _ _ _ | exact PlaT.cln (by omega) _ _)).mono ?_
  rintro e wd6 ⟨_, rfl, hod6, hbd6⟩
  have hsq6 := hbd6.size; obtain ⟨oG, cG, rfl⟩ := hod6.shapeN (n := n) (tri_len _ _)
  have hd6 : Below w15.heap.size w15 wd6 := (by (repeat (first | exact Below.refl _ _ | (refine Below.setCell ?_ (by first | (simp; done) | (simp; omega) | omega) _) | (refine Below.alloc ?_ (by first | (simp; done) | (simp; omega) | omega) _) | (refine below_drewN ?_ _) | (refine Below.drew ?_) | (refine Below.trans ?_ (Below.mono hbd1 (by first | (simp; done) | (simp; omega) | omega))) | (refine Below.trans ?_ (Below.mono hbd2 (by first | (simp; done) | (simp; omega) | omega))) | (refine Below.trans ?_ (Below.mono hbd3 (by first | (simp; done) | (simp; omega) | omega))) | (refine Below.trans ?_ (Below.mono hbd4 (by first | (simp; done) | (simp; omega) | omega))) | (refine Below.trans ?_ (Below.mono hbd5 (by first | (simp; done) | (simp; omega) | omega))) | (refine Below.trans ?_ (Below.mono hbd6 (by first | (simp; done) | (simp; omega) | omega))))))
  have hsd6 := hd6.size
  have hsz6_ := hbd6.size
  (try simp at hsz6_)
  obtain ⟨m6_0, m6_1⟩ := ((MB15.1).below hd6 (Nat.le_refl _))
  obtain ⟨n6_0, n6_1⟩ := ((NB15.1).below hd6 (Nat.le_refl _))
  obtain ⟨c6_0, c6_1⟩ := ((CB15.1).below hd6 (Nat.le_refl _))
  have a6_0 := (((hv15).below hd6 (Nat.le_refl _))).cellz (some_at0 (show 0 < ls.length by have := HL.out; omega))
  have a6_2 := (((hv15).below hd6 (Nat.le_refl _))).cell0 (some_at0 (show 2 < ls.length by have := HL.out; omega))
  obtain ⟨⟨r6_0, r6_1⟩, rf6⟩ := ((R15).below hd6 (Nat.le_refl _))
  go_wp2_with fail
  clear hHeld
  have hHeld : (fun w' : World => w'.cell? ⟨bM, 0, none⟩ = some (.int .i64 m) ∧ w'.cell? ⟨bM, 1, none⟩ = some (.slice oM n cM) ∧ w'.cell? ⟨w14.heap.size, 0, none⟩ = some (.int .i64 m) ∧ w'.cell? ⟨w14.heap.size, 1, none⟩ = some (.slice oN n cN) ∧ w'.cell? ⟨w1.heap.size + 1, 0, none⟩ = some (.int .i64 m) ∧ w'.cell? ⟨w1.heap.size + 1, 1, none⟩ = some (.slice (some ⟨gW, 0, none⟩) n cW) ∧ w'.cell? ⟨bl, fl, none⟩ = some (.int .i64 (at0 ls 0)) ∧ w'.cell? ⟨bl, fl + 2, none⟩ = some (.int .i64 (at0 ls 2))) wd6 := by go_keep
  refine hK.out _ _ (fun _ => hHeld) ?_
  clear hK K
  try simp only [List.getElem_toArray, List.getElem_cons_zero, List.getElem_cons_succ, Act.put, List.setIfInBounds_toArray, List.set_cons_zero, List.set_cons_succ]
  refine wpAnyK_oneL (i := 17) rfl (by kernel_rfl) (fun K hK => ?_)
  go_simp
  go_at_call 42
  refine (inverted_c m n _ (subT m n (subT m n (oneT m n) (scaT m n (at0 ls 0) N)) (scaT m n (at0 ls 2) (hornT m n N cw))) _ ((hod6.below (by (repeat (first | exact Below.refl _ _ | (refine Below.setCell ?_ (by first | (simp; done) | (simp; omega) | omega) _) | (refine Below.alloc ?_ (by first | (simp; done) | (simp; omega) | omega) _) | (refine below_drewN ?_ _) | (refine Below.drew ?_)))))).rd (by omega) (by omega) hm hm' (by first | assumption | exact timesT_ok (by omega) _ _ _ | exact addT_ok (by omega) _ _ _ | exact PlaT.sub (by omega) _ _ _ | exact PlaT.sca (by omega) _ _ _ | exact PlaT.one (by omega) _ | exact PlaT.inv (by omega) _ _ | exact hornT_ok (by omega) _ _ _ | exact PlaT.cln (by omega) _ _)).mono ?_
  rintro e wd7 ⟨_, rfl, hod7, hbd7⟩
  have hsq7 := hbd7.size; obtain ⟨oH, cH, rfl⟩ := hod7.shapeN (n := n) ((PlaT.inv (show 0 < m by omega) n _).1)
  have hd7 : Below w15.heap.size w15 wd7 := (by (repeat (first | exact Below.refl _ _ | (refine Below.setCell ?_ (by first | (simp; done) | (simp; omega) | omega) _) | (refine Below.alloc ?_ (by first | (simp; done) | (simp; omega) | omega) _) | (refine below_drewN ?_ _) | (refine Below.drew ?_) | (refine Below.trans ?_ (Below.mono hbd1 (by first | (simp; done) | (simp; omega) | omega))) | (refine Below.trans ?_ (Below.mono hbd2 (by first | (simp; done) | (simp; omega) | omega))) | (refine Below.trans ?_ (Below.mono hbd3 (by first | (simp; done) | (simp; omega) | omega))) | (refine Below.trans ?_ (Below.mono hbd4 (by first | (simp; done) | (simp; omega) | omega))) | (refine Below.trans ?_ (Below.mono hbd5 (by first | (simp; done) | (simp; omega) | omega))) | (refine Below.trans ?_ (Below.mono hbd6 (by first | (simp; done) | (simp; omega) | omega))) | (refine Below.trans ?_ (Below.mono hbd7 (by first | (simp; done) | (simp; omega) | omega))))))
  have hsd7 := hd7.size
  have hsz7_ := hbd7.size
  (try simp at hsz7_)
  obtain ⟨m7_0, m7_1⟩ := ((MB15.1).below hd7 (Nat.le_refl _))
  obtain ⟨n7_0, n7_1⟩ := ((NB15.1).below hd7 (Nat.le_refl _))
  obtain ⟨c7_0, c7_1⟩ := ((CB15.1).below hd7 (Nat.le_refl _))
  have a7_0 := (((hv15).below hd7 (Nat.le_refl _))).cellz (some_at0 (show 0 < ls.length by have := HL.out; omega))
  have a7_2 := (((hv15).below hd7 (Nat.le_refl _))).cell0 (some_at0 (show 2 < ls.length by have := HL.out; omega))
  obtain ⟨⟨r7_0, r7_1⟩, rf7⟩ := ((R15).below hd7 (Nat.le_refl _))
  go_wp2_with fail
  clear hHeld
  have hHeld : (fun w' : World => w'.cell? ⟨bM, 0, none⟩ = some (.int .i64 m) ∧ w'.cell? ⟨bM, 1, none⟩ = some (.slice oM n cM) ∧ w'.cell? ⟨w14.heap.size, 0, none⟩ = some (.int .i64 m) ∧ w'.cell? ⟨w14.heap.size, 1, none⟩ = some (.slice oN n cN) ∧ w'.cell? ⟨w1.heap.size + 1, 0, none⟩ = some (.int .i64 m) ∧ w'.cell? ⟨w1.heap.size + 1, 1, none⟩ = some (.slice (some ⟨gW, 0, none⟩) n cW) ∧ w'.cell? ⟨bl, fl, none⟩ = some (.int .i64 (at0 ls 0)) ∧ w'.cell? ⟨bl, fl + 2, none⟩ = some (.int .i64 (at0 ls 2))) wd7 := by go_keep
  refine hK.out _ _ (fun _ => hHeld) ?_
  clear hK K
  try simp only [List.getElem_toArray, List.getElem_cons_zero, List.getElem_cons_succ, Act.put, List.setIfInBounds_toArray, List.set_cons_zero, List.set_cons_succ]
  refine wpAnyK_oneL (i := 18) rfl (by kernel_rfl) (fun K hK => ?_)
  go_simp
  go_at_call 38
  refine (timesP_c m m n _ _ M (invT m n (subT m n (subT m n (oneT m n) (scaT m n (at0 ls 0) N)) (scaT m n (at0 ls 2) (hornT m n N cw)))) _ ((M15).below (by (repeat (first | exact Below.refl _ _ | (refine Below.setCell ?_ (by first | (simp; done) | (simp; omega) | omega) _) | (refine Below.alloc ?_ (by first | (simp; done) | (simp; omega) | omega) _) | (refine below_drewN ?_ _) | (refine Below.drew ?_) | (refine Below.trans ?_ (Below.mono hbd1 (by first | (simp; done) | (simp; omega) | omega))) | (refine Below.trans ?_ (Below.mono hbd2 (by first | (simp; done) | (simp; omega) | omega))) | (refine Below.trans ?_ (Below.mono hbd3 (by first | (simp; done) | (simp; omega) | omega))) | (refine Below.trans ?_ (Below.mono hbd4 (by first | (simp; done) | (simp; omega) | omega))) | (refine Below.trans ?_ (Below.mono hbd5 (by first | (simp; done) | (simp; omega) | omega))) | (refine Below.trans ?_ (Below.mono hbd6 (by first | (simp; done) | (simp; omega) | omega))) | (refine Below.trans ?_ (Below.mono hbd7 (by first | (simp; done) | (simp; omega) | omega)))))) (Nat.le_refl _)) ((hod7.below (by (repeat (first | exact Below.refl _ _ | (refine Below.setCell ?_ (by first | (simp; done) | (simp; omega) | omega) _) | (refine Below.alloc ?_ (by first | (simp; done) | (simp; omega) | omega) _) | (refine below_drewN ?_ _) | (refine Below.drew ?_)))))).rd (by omega) (by omega) hm (by omega) HM (by first | assumption | exact timesT_ok (by omega) _ _ _ | exact addT_ok (by omega) _ _ _ | exact PlaT.sub (by omega) _ _ _ | exact PlaT.sca (by omega) _ _ _ | exact PlaT.one (by omega) _ | exact PlaT.inv (by omega) _ _ | exact hornT_ok (by omega) _ _ _ | exact PlaT.cln (by omega) _ _)).mono ?_
  rintro e wd8 ⟨_, rfl, hod8, hbd8⟩
  have hsq8 := hbd8.size; obtain ⟨oI, cI, rfl⟩ := hod8.shapeN (n := n) (tri_len _ _)
  have hd8 : Below w15.heap.size w15 wd8 := (by (repeat (first | exact Below.refl _ _ | (refine Below.setCell ?_ (by first | (simp; done) | (simp; omega) | omega) _) | (refine Below.alloc ?_ (by first | (simp; done) | (simp; omega) | omega) _) | (refine below_drewN ?_ _) | (refine Below.drew ?_) | (refine Below.trans ?_ (Below.mono hbd1 (by first | (simp; done) | (simp; omega) | omega))) | (refine Below.trans ?_ (Below.mono hbd2 (by first | (simp; done) | (simp; omega) | omega))) | (refine Below.trans ?_ (Below.mono hbd3 (by first | (simp; done) | (simp; omega) | omega))) | (refine Below.trans ?_ (Below.mono hbd4 (by first | (simp; done) | (simp; omega) | omega))) | (refine Below.trans ?_ (Below.mono hbd5 (by first | (simp; done) | (simp; omega) | omega))) | (refine Below.trans ?_ (Below.mono hbd6 (by first | (simp; done) | (simp; omega) | omega))) | (refine Below.trans ?_ (Below.mono hbd7 (by first | (simp; done) | (simp; omega) | omega))) | (refine Below.trans ?_ (Below.mono hbd8 (by first | (simp; done) | (simp; omega) | omega))))))
  have hsd8 := hd8.size
  have hsz8_ := hbd8.size
  (try simp at hsz8_)
  obtain ⟨m8_0, m8_1⟩ := ((MB15.1).below hd8 (Nat.le_refl _))
  obtain ⟨n8_0, n8_1⟩ := ((NB15.1).below hd8 (Nat.le_refl _))
  obtain ⟨c8_0, c8_1⟩ := ((CB15.1).below hd8 (Nat.le_refl _))
  have a8_0 := (((hv15).below hd8 (Nat.le_refl _))).cellz (some_at0 (show 0 < ls.length by have := HL.out; omega))
  have a8_2 := (((hv15).below hd8 (Nat.le_refl _))).cell0 (some_at0 (show 2 < ls.length by have := HL.out; omega))
  obtain ⟨⟨r8_0, r8_1⟩, rf8⟩ := ((R15).below hd8 (Nat.le_refl _))
  go_wp2_with fail
  clear hHeld
  have hHeld : (fun w' : World => w'.cell? ⟨bM, 0, none⟩ = some (.int .i64 m) ∧ w'.cell? ⟨bM, 1, none⟩ = some (.slice oM n cM) ∧ w'.cell? ⟨w14.heap.size, 0, none⟩ = some (.int .i64 m) ∧ w'.cell? ⟨w14.heap.size, 1, none⟩ = some (.slice oN n cN) ∧ w'.cell? ⟨w1.heap.size + 1, 0, none⟩ = some (.int .i64 m) ∧ w'.cell? ⟨w1.heap.size + 1, 1, none⟩ = some (.slice (some ⟨gW, 0, none⟩) n cW) ∧ w'.cell? ⟨bl, fl, none⟩ = some (.int .i64 (at0 ls 0)) ∧ w'.cell? ⟨bl, fl + 2, none⟩ = some (.int .i64 (at0 ls 2))) wd8 := by go_keep
  refine hK.out _ _ (fun _ => hHeld) ?_
  clear hK K
  try simp only [List.getElem_toArray, List.getElem_cons_zero, List.getElem_cons_succ, Act.put, List.setIfInBounds_toArray, List.set_cons_zero, List.set_cons_succ]
  refine wpAnyK_oneL (i := 19) rfl (by kernel_rfl) (fun K hK => ?_)
  go_simp
  (try go_wp2_with fail)
  refine hK.out _ _ (fun h => absurd h (by decide)) ?_
  clear hK K
  try simp only [List.getElem_toArray, List.getElem_cons_zero, List.getElem_cons_succ, Act.put, List.setIfInBounds_toArray, List.set_cons_zero, List.set_cons_succ]
  refine wpAnyK_done (by kernel_rfl) ?_ _
  go_wp2_with fail
  have hT : (timesT m n M (invT m n (subT m n (subT m n (oneT m n) (scaT m n (at0 ls 0) N)) (scaT m n (at0 ls 2) (hornT m n N cw))))) = wtLaw m n (at0 ls) (weiI m (n + 1) (at0 ls) n) := by
    rw [HNd.out, HMd.out, HTd.out, HUd.out, HQd.out, HVd.out, HLd.out, HXd.out, HYd.out, HCWd.out, HWd.out]; rfl
  rw [hT] at hod8
  go_wp2
  refine bodyPost_ret (v := .agg #[.int .i64 m, .slice oI n cI]) (by simp [results, Try.results16, go_sem, r8_0, r8_1]) rfl ⟨_, rfl, ?_, ?_⟩
  · have hbsz := B15.size
    exact ((hod8.low (by first | (simp; done) | (simp; omega) | omega) _).low (by first | (simp; done) | (simp; omega) | omega) _).mono (by first | (simp; done) | (simp; omega) | omega)
  · have hbsz := B15.size
    (repeat (first | exact Below.refl _ _ | (refine Below.setCell ?_ (by first | (simp; done) | (simp; omega) | omega) _) | (refine Below.alloc ?_ (by first | (simp; done) | (simp; omega) | omega) _) | (refine below_drewN ?_ _) | (refine Below.drew ?_) | (refine Below.trans ?_ (Below.mono hd8 (by first | (simp; done) | (simp; omega) | omega))) | (refine Below.trans ?_ (Below.mono B15 (by first | (simp; done) | (simp; omega) | omega)))))
end Go.Proofs.Ytmmneicblcjkjaa
