/- Lemmas. -/
import Derived.Test.YteijannfbafdpaaGreatDoorSZG3
import Derived.Test.YteijannfbafdpaaGreatDoorSZG1
import Derived.StillTailTactics
import Derived.Deep.DeepCutAuto
/- Planes: the program's tables. -/
set_option linter.unusedSimpArgs false
set_option linter.unusedVariables false
namespace Go.Proofs.YteijannfbafdpaaGreatDoor
open Go.RowKit

structure PR where
  m : Int
  xs : List (List Int)
  code : Int
def PVEnd (w w' : World) (m : Int) (xss : List (List Int)) (e : Ending) : Prop :=
  ∃ v', e = .returned (.agg #[.int .i64 m, v']) ∧ OwS w' w.heap.size v' xss ∧ Below w.heap.size w w'

theorem RB2.put1 {w : World} {b : Nat} {x y : Value} (h : RB2 w b x y) (u : Value) : RB2 (w.setCell ⟨b, 1, none⟩ u) b x u := by
  obtain ⟨⟨h0, h1⟩, hf⟩ := h
  exact ⟨⟨(World.cell?_setCell_other w ⟨b, 1, none⟩ ⟨b, 0, none⟩ u (by simp)).trans h0, World.cell?_setCell_same _ _ _ h1⟩, fun k => by rw [World.frozen?_setCell]; exact hf k⟩

set_option maxHeartbeats 2000000 in
set_option maxRecDepth 100000 in
theorem emptyPlane_c (m d : Int) (n : Nat) (w : World) (hd : d = (n : Int) - 1) (hn : n ≤ 1000) :
    Calls Tryz.prog 111 #[.int .i64 m, .int .i64 d] w fun e w' => PVEnd w w' m (zeroT n) e := by
  subst hd
  go_enter Tryz.func111, Tryz.ntmps111
  go_wp2_with fail
  have B0 : Below w.heap.size w ((w.alloc (.cells #[.int .i64 0, .slice none 0 0] 28)).alloc (.cells #[.int .i64 m, .slice none 0 0] 28)) := (by (repeat (first | exact bR _ _ | (refine bS ?_ _) | (refine bA ?_ _) | (refine bN ?_ _) | (refine bD ?_))))
  have R0 := (RB2.mk1 w (.int .i64 0) (.slice none 0 0) 28).below (w' := (w.alloc (.cells #[.int .i64 0, .slice none 0 0] 28)).alloc (.cells #[.int .i64 m, .slice none 0 0] 28)) ((by (repeat (first | exact bR _ _ | (refine bS ?_ _) | (refine bA ?_ _) | (refine bN ?_ _) | (refine bD ?_))))) (Nat.le_refl _)
  have O0 := RB2.mk2 w (.cells #[.int .i64 0, .slice none 0 0] 28) (.int .i64 m) (.slice none 0 0) 28
  generalize (w.alloc (.cells #[.int .i64 0, .slice none 0 0] 28)).alloc (.cells #[.int .i64 m, .slice none 0 0] 28) = w0 at B0 R0 O0 ⊢
  have hO0 := O0.1.lt
  have hR0 := R0.1.lt
  go_loopw [11] (fun i wr => ∃ (k : Nat) (ov : Option Addr) (cv : Nat), k ≤ n ∧ i = .int .i64 k ∧ OwS wr w0.heap.size (.slice ov k cv) (zeroRows n k) ∧ RB2 wr (w.heap.size + 1) (.int .i64 m) (.slice ov k cv) ∧ RB2 wr w.heap.size (.int .i64 0) (.slice none 0 0) ∧ Below w.heap.size w wr ∧ w0.heap.size ≤ wr.heap.size) (fun i _ => n - (intOf i).toNat)
  case atStart => exact ⟨0, _, _, Nat.zero_le _, rfl, OwS.nil _ _, O0, R0, B0, Nat.le_refl _⟩
  case round =>
    obtain ⟨k, ov, cv, hk, rfl, hO, hB, hR, hBr, hsz⟩ := hrel
    by_cases hlt : k < n
    · obtain ⟨⟨x0, x1⟩, xf⟩ := id hB
      have HS := Lib.hid (zeroRows_snoc n k)
      have HLn := Lib.hid (zeroRows_len n k)
      generalize zeroRows n k = l at hO HS HLn
      have e1 : IntKind.i64.wrap (n : Int) = (n : Int) := IntWalk.i64_in _ (by omega)
      have e2 : IntKind.i64.wrap ((n : Int) - (k : Int)) = (n : Int) - (k : Int) := IntWalk.i64_in _ (by omega)
      go_wp2_with fail
      refine wp_region_S (S := fun w' => w'.cell? ⟨w.heap.size + 1, 1, none⟩ = some (.slice ov k cv)) 10 (by kernel_rfl) ?_
      have hHeld : (fun w' : World => w'.cell? ⟨w.heap.size + 1, 1, none⟩ = some (.slice ov k cv)) wr.drew := by go_keep
      refine' wpAnyS_takeL (i := 0) (v := _) rfl (by kernel_rfl) (by kernel_rfl) (by kernel_rfl) (by kernel_rfl) (fun _ _ _ h => h) (Or.inl ⟨by rfl, ?yE0⟩) hHeld ?rE0
      case yE0 => (intro w' hSw; (try dsimp only at hSw); go_simp; try with_reducible rfl)
      try simp only [Act.put, List.setIfInBounds_toArray, List.set_cons_zero, List.set_cons_succ]
      refine' wpAnyS_takeL (i := 1) (v := _) rfl (by kernel_rfl) (by kernel_rfl) (by kernel_rfl) (by kernel_rfl) (fun _ _ _ h => h) (Or.inl ⟨by rfl, ?yE1⟩) hHeld ?rE1
      case yE1 => (intro w' hSw; (try dsimp only at hSw); go_simp; try with_reducible rfl)
      try simp only [Act.put, List.setIfInBounds_toArray, List.set_cons_zero, List.set_cons_succ]
      refine' wpAnyS_takeL (i := 2) (v := _) rfl (by kernel_rfl) (by kernel_rfl) (by kernel_rfl) (by kernel_rfl) (fun _ _ _ h => h) (Or.inl ⟨by rfl, ?yE2⟩) hHeld ?rE2
      case yE2 => (intro w' hSw; (try dsimp only at hSw); go_simp; try with_reducible rfl)
      try simp only [Act.put, List.setIfInBounds_toArray, List.set_cons_zero, List.set_cons_succ]
      refine' wpAnyS_takeL (i := 3) (v := _) rfl (by kernel_rfl) (by kernel_rfl) (by kernel_rfl) (by kernel_rfl) (fun _ _ _ h => h) (Or.inl ⟨by rfl, ?yE3⟩) hHeld ?rE3
      case yE3 => (intro w' hSw; (try dsimp only at hSw); go_simp; try with_reducible rfl)
      try simp only [Act.put, List.setIfInBounds_toArray, List.set_cons_zero, List.set_cons_succ]
      refine' wpAnyS_takeL (i := 4) (v := _) rfl (by kernel_rfl) (by kernel_rfl) (by kernel_rfl) (by kernel_rfl) (fun _ _ _ h => h) (Or.inl ⟨by rfl, ?yE4⟩) hHeld ?rE4
      case yE4 => (intro w' hSw; (try dsimp only at hSw); go_simp; try with_reducible rfl)
      try simp only [Act.put, List.setIfInBounds_toArray, List.set_cons_zero, List.set_cons_succ]
      refine' wpAnyS_takeL (i := 5) (v := _) rfl (by kernel_rfl) (by kernel_rfl) (by kernel_rfl) (by kernel_rfl) (fun _ _ _ h => h) (Or.inl ⟨by rfl, ?yE5⟩) hHeld ?rE5
      case yE5 => (intro w' hSw; (try dsimp only at hSw); go_simp; try with_reducible rfl)
      try simp only [Act.put, List.setIfInBounds_toArray, List.set_cons_zero, List.set_cons_succ]
      clear e1 e2
      refine wpAnyS_oneL (i := 6) rfl (by kernel_rfl) (fun K hK => ?_)
      refine stMk rfl _ _ rfl _ _ _ (n - k) rfl rfl (by omega) (by omega) ?_
      intro w2 how hb2 hs2
      have hb2' : Below wr.heap.size wr w2 := ((Below.refl wr.heap.size wr).drew).trans hb2
      have how' : OwI w2 wr.heap.size (.slice (some ⟨wr.heap.size, 0, none⟩) (n - k) (n - k)) (List.replicate (n - k) 0) := how
      have hs2' : w2.heap.size = wr.heap.size + 1 := hs2
      have hz2 : wr.heap.size < w2.heap.size := by omega
      clear hs2 hs2'
      have hB2 := hB.below hb2' (Nat.le_refl _)
      refine hK.out _ _ (fun _ => hB2.1.2) ?_
      clear hK K
      try simp only [Act.put, List.setIfInBounds_toArray, List.set_cons_zero, List.set_cons_succ]
      obtain ⟨W, hW⟩ : ∃ W : World, W = w2.alloc (.cells #[.slice (some ⟨wr.heap.size, 0, none⟩) (n - k) (n - k)] 34) := ⟨_, rfl⟩
      have hWs : W.heap.size = w2.heap.size + 1 := by rw [hW]; simp
      have hbW : Below wr.heap.size wr W := by rw [hW]; exact hb2'.alloc (by omega) _
      have hT : OwSR w0.heap.size wr.heap.size W (.slice ov k cv) l := hO.toR.stay (fun j _ hj => hbW.block j hj)
      have hU : OwI W wr.heap.size (.slice (some ⟨wr.heap.size, 0, none⟩) (n - k) (n - k)) (List.replicate (n - k) 0) := by rw [hW]; exact how'.alloc _
      have hC : W.cell? ⟨w2.heap.size, 0, none⟩ = some (.slice (some ⟨wr.heap.size, 0, none⟩) (n - k) (n - k)) := by rw [hW]; simp
      have hBW := hB.below hbW (Nat.le_refl _)
      have HW := Lib.hid hW
      clear hW
      refine wpAnyS_oneL (i := 7) rfl (by kernel_rfl) (fun K hK => ?_)
      go_simp
      rw [← HW.out]
      refine hK.out _ _ (fun _ => hBW.1.2) ?_
      clear hK K
      try simp only [Act.put, List.setIfInBounds_toArray, List.set_cons_zero, List.set_cons_succ]
      refine wpAnyS_oneL (i := 8) rfl (by kernel_rfl) (fun K hK => ?_)
      refine stT W rfl _ _ rfl w0.heap.size wr.heap.size (.slice ov k cv) l rfl hT (by omega) hsz _ _ w2.heap.size rfl hC hU (by rw [HLn.out]; omega) ?_
      intro g cap w3 hO3 hgr hb3
      clear hgr
      have hB3 := hBW.belowB hb3 hO0
      have hR3 := (hR.below hbW (Nat.le_refl _)).belowB hb3 hR0
      have B3 : Below w.heap.size w w3 := (hBr.trans (hbW.mono hBr.size)).trans (hb3.mono (by omega))
      refine hK.out _ _ (fun _ => hB3.1.2) ?_
      clear hK K
      try simp only [Act.put, List.setIfInBounds_toArray, List.set_cons_zero, List.set_cons_succ]
      refine wpAnyS_oneL (i := 9) rfl (by kernel_rfl) (fun K hK => ?_)
      go_simp
      refine hK.out _ _ (fun _ => hB3.1.2) ?_
      clear hK K
      try simp only [Act.put, List.setIfInBounds_toArray, List.set_cons_zero, List.set_cons_succ]
      refine wpAnyS_oneL (i := 10) rfl (by kernel_rfl) (fun K hK => ?_)
      obtain ⟨⟨z0, z1⟩, zf⟩ := id hB3
      go_simp
      refine hK.out _ _ (fun h => absurd h (by decide)) ?_
      clear hK K
      try simp only [Act.put, List.setIfInBounds_toArray, List.set_cons_zero, List.set_cons_succ]
      refine wpAnyS_done (by kernel_rfl) ?_ _
      rw [HLn.out, ← HS.out] at hO3
      rw [HLn.out]
      go_wp2_with fail
      have hO4 := hO3.low (g := w.heap.size + 1) (k := 1) hO0 (.slice (some ⟨g, 0, none⟩) (k + 1) cap)
      have hB4 := hB3.put1 (.slice (some ⟨g, 0, none⟩) (k + 1) cap)
      have hR4 := hR3.put' (a := ⟨w.heap.size + 1, 1, none⟩) (by simp) (.slice (some ⟨g, 0, none⟩) (k + 1) cap)
      have B4 : Below w.heap.size w (w3.setCell ⟨w.heap.size + 1, 1, none⟩ (.slice (some ⟨g, 0, none⟩) (k + 1) cap)) := below_put B3 (by omega) _
      have hsz4 : w0.heap.size ≤ w3.heap.size := by have := hb3.size; omega
      exact ⟨⟨k + 1, _, _, by omega, by go_num, hO4, hB4, hR4, B4, by simpa using hsz4⟩, by simp [intOf]; omega⟩
    · obtain rfl : k = n := by omega
      rw [zeroRows_all] at hO
      obtain ⟨⟨x0, x1⟩, xf⟩ := id hB
      obtain ⟨⟨r0, r1⟩, rf⟩ := id hR
      go_wp2
      refine bodyPost_ret (v := .agg #[.int .i64 m, .slice ov k cv]) (by simp [results, Tryz.results111, go_sem, r0, r1]) rfl ⟨_, rfl, ?_, ?_⟩
      · exact ((hO.low (show w.heap.size < w0.heap.size by omega) _).low (show w.heap.size < w0.heap.size by omega) _).mono (by omega)
      · (repeat (first | exact bR _ _ | (refine bS ?_ _) | (refine bA ?_ _) | (refine bN ?_ _) | (refine bD ?_) | (refine bT ?_ hBr)))

end Go.Proofs.YteijannfbafdpaaGreatDoor

/- Planes: the program's plane with a number for each coefficient; a number as a plane. -/
set_option linter.unusedSimpArgs false
set_option linter.unusedVariables false
namespace Go.Proofs.YteijannfbafdpaaGreatDoor
open Go.RowKit

theorem OwSR.alloc {lo hi : Nat} {u : World} {v : Value} {xss : List (List Int)} (h : OwSR lo hi u v xss) (hh : hi ≤ u.heap.size) (o : Obj) : OwSR lo hi (u.alloc o) v xss :=
  h.stay (fun k _ hk => Below.heap_alloc _ _ k (by omega))
theorem heap_set_ne (u : World) (b k : Nat) (x : Value) {j : Nat} (h : j ≠ b) : (u.setCell ⟨b, k, none⟩ x).heap[j]? = u.heap[j]? := heap_setCell_other u ⟨b, k, none⟩ j x (fun e => h (by simp [e]))
theorem OwSR.put {lo hi : Nat} {u : World} {v : Value} {xss : List (List Int)} (h : OwSR lo hi u v xss) {b : Nat} (hb : b < lo ∨ hi ≤ b) (k : Nat) (x : Value) : OwSR lo hi (u.setCell ⟨b, k, none⟩ x) v xss :=
  h.stay (fun j _ _ => heap_set_ne u b k x (by omega))
theorem OwS.ra {w : World} {B : Nat} {v : Value} {xss : List (List Int)} (h : OwS w B v xss) (o : Obj) : OwSR B w.heap.size (w.alloc o) v xss := h.toR.alloc (Nat.le_refl _) o
theorem OwS.rp2 {w : World} {B b : Nat} {v : Value} {xss : List (List Int)} (h : OwS w B v xss) (hb : b < B) (x y : Value) : OwSR B w.heap.size ((w.setCell ⟨b, 0, none⟩ x).setCell ⟨b, 1, none⟩ y) v xss :=
  (h.toR.put (.inl hb) 0 x).put (.inl hb) 1 y
def mapTo (n : Nat) (g : Nat → Nat → Int) (i j : Nat) : List (List Int) := tri n (fun a b => if a < i ∨ (a = i ∧ b < j) then g a b else 0)
theorem mapTo_0 (n : Nat) (g : Nat → Nat → Int) : zeroT n = mapTo n g 0 0 := tri_ext fun i j _ => by simp
def mapRow (n : Nat) (g : Nat → Nat → Int) (i j : Nat) : List Int := mk (n - i) (fun b => if b < j then g i b else 0)
theorem mapRow_len (n : Nat) (g : Nat → Nat → Int) (i j : Nat) : (mapRow n g i j).length = n - i := mk_len _ _
theorem mapTo_get {n : Nat} {g : Nat → Nat → Int} {i j : Nat} (h : i < n) : (mapTo n g i j)[i]? = some (mapRow n g i j) := by
  unfold mapTo; rw [tri_get h]; congr 1; exact mk_ext fun b _ => by simp
theorem mapTo_set {n : Nat} {g : Nat → Nat → Int} {i j : Nat} (h : i + j < n) : (mapTo n g i j).set i ((mapRow n g i j).set j (g i j)) = mapTo n g i (j + 1) := by
  have e : mapRow n g i j = mk (n - i) ((fun a b => if a < i ∨ (a = i ∧ b < j) then g a b else 0) i) := mk_ext fun b _ => by simp
  unfold mapTo
  rw [e, tri_set h]
  refine tri_ext fun a b hab => ?_
  by_cases e1 : a = i ∧ b = j
  · obtain ⟨rfl, rfl⟩ := e1; simp
  · rw [if_neg e1]
    by_cases e2 : a < i ∨ (a = i ∧ b < j)
    · rw [if_pos e2, if_pos (by omega)]
    · rw [if_neg e2, if_neg (by omega)]
theorem mapTo_row {n : Nat} {g : Nat → Nat → Int} {i : Nat} : mapTo n g i (n - i) = mapTo n g (i + 1) 0 := tri_ext fun a b hab => by
  by_cases e : a < i ∨ (a = i ∧ b < n - i)
  · rw [if_pos e, if_pos (by omega)]
  · rw [if_neg e, if_neg (by omega)]
theorem mapTo_all (n : Nat) (g : Nat → Nat → Int) : mapTo n g n 0 = tri n g := tri_ext fun a b hab => by rw [if_pos (by omega)]

set_option maxHeartbeats 2000000 in
set_option maxRecDepth 100000 in
theorem mapped2_c (G : Nat) (c0 c1 : Value) (f : Nat → Nat → Int) (m : Int) (o : Option Addr) (n c : Nat) (w : World) (h1 : 1 ≤ n) (hn : n ≤ 1000) (hm : 1 ≤ m) (hm' : m ≤ 1000000000000000000) (hG : Callable G)
    (hf : ∀ i j, i + j < n → -9000000000000000000 ≤ f i j ∧ f i j ≤ 9000000000000000000)
    (hF : ∀ (i j : Nat) w1, i + j < n → Below w.heap.size w w1 → Calls Tryz.prog G #[.int .i64 i, .int .i64 j, c0, c1] w1 fun e w' => e = .returned (.int .i64 (f i j)) ∧ ∃ d, w' = w1.drewN d) :
    Calls Tryz.prog 112 #[.agg #[.int .i64 m, .slice o n c], .func (.func G) #[] #[c0, c1]] w fun e w' => PVEnd w w' m (tri n (fun i j => f i j % m)) e := by
  have HF := Lib.hid hF
  have Hf := Lib.hid hf
  clear hF hf
  unfold Callable at hG
  go_enter Tryz.func112, Tryz.ntmps112
  go_wp2_with fail
  (obtain ⟨w0, hw0⟩ : ∃ W : World, W = ((w.alloc (.cells #[.int .i64 m, .slice o n c] 28)).alloc (.cells #[.int .i64 0, .slice none 0 0] 28)) := ⟨_, rfl⟩; have X0 := (RB2.mk1 w  (.int .i64 m) (.slice o n c) 28).1.below (w' := w0) (by rw [hw0]; (repeat (first | exact bR _ _ | (refine bS ?_ _) | (refine bA ?_ _) | (refine bN ?_ _) | (refine bD ?_)))) (Nat.le_refl _); have R0 := (RB2.mk2 w (.cells #[.int .i64 m, .slice o n c] 28) (.int .i64 0) (.slice none 0 0) 28).below (w' := w0) (by rw [hw0]; (repeat (first | exact bR _ _ | (refine bS ?_ _) | (refine bA ?_ _) | (refine bN ?_ _) | (refine bD ?_)))) (Nat.le_refl _); have B0 : Below w.heap.size w w0 := (by rw [hw0]; (repeat (first | exact bR _ _ | (refine bS ?_ _) | (refine bA ?_ _) | (refine bN ?_ _) | (refine bD ?_)))); rw [← hw0]; clear hw0)
  have hzl : w.heap.size + 1 < w0.heap.size := R0.1.lt
  go_cut [5] (fun sb u => ∃ (wz : World) (b : Nat) (oz : Option Addr) (cz : Nat), wz = u ∧ sb = .pointer (some ⟨b, 0, none⟩) ∧ w0.heap.size ≤ b ∧ RB2 u b (.int .i64 m) (.slice oz n cz) ∧ (∃ lo hi, OwSR lo hi u (.slice oz n cz) (zeroT n) ∧ w0.heap.size ≤ lo ∧ (b < lo ∨ hi ≤ b) ∧ hi ≤ u.heap.size) ∧ True ∧ Below w0.heap.size w0 u)
  case first =>
    have hd0 : Below w0.heap.size w0 w0.drew := (Below.refl _ _).drew
    have hsd0 := hd0.size
    have hlb_X0 := X0.lt
    obtain ⟨q0_X0_0, q0_X0_1⟩ := X0.below (Below.refl w0.heap.size w0) (Nat.le_refl _)
    have hne0_X0 : w0.heap.size ≠ w.heap.size := by omega
    go_region_held3 (fun w' => w'.cell? ⟨w.heap.size, 0, none⟩ = some (.int .i64 m) ∧ w'.cell? ⟨w.heap.size, 1, none⟩ = some (.slice o n c)) (go_keep)
      (first
        | (go_at_call 31; refine (degreeP_c m o n c _ (by unfold maxLen; omega)).mono ?_; rintro e wd1 ⟨rfl, hbd1⟩; have hd1 : Below w0.heap.size w0 wd1 := (by (repeat (first | exact bR _ _ | (refine bS ?_ _) | (refine bA ?_ _) | (refine bN ?_ _) | (refine bD ?_) | (refine bT ?_ hbd1)))); have hsd1 := hd1.size; have hsz1_ := hbd1.size; (try simp at hsz1_); obtain ⟨q1_X0_0, q1_X0_1⟩ := X0.below hd1 (Nat.le_refl _); have hne1_X0 : wd1.heap.size ≠ w.heap.size := (by omega); (try (have RZ := RZ.below hbd1 (Nat.le_refl _))); (try (have RZ := (show RB2 (w0.alloc (.cells #[.int .i64 0, .slice none 0 0] 28)).drew w0.heap.size (.int .i64 0) (.slice none 0 0) from RB2.mk1 w0 (.int .i64 0) (.slice none 0 0) _).below hbd1 (Nat.le_refl _))); (try (obtain ⟨⟨z1_0, z1_1⟩, zf1⟩ := id RZ)))
        | (go_at_call 111; refine (emptyPlane_c m ((n : Int) - 1) n _ rfl hn).mono ?_; rintro e wd2 ⟨vz2, rfl, hod2, hbd2⟩; obtain ⟨oz, cz, rfl⟩ := hod2.shapeN (n := n) (zeroT_len n); have hd2 : Below w0.heap.size w0 wd2 := (by (repeat (first | exact bR _ _ | (refine bS ?_ _) | (refine bA ?_ _) | (refine bN ?_ _) | (refine bD ?_) | (refine bT ?_ hbd1) | (refine bT ?_ hbd2)))); have hsd2 := hd2.size; have hsz2_ := hbd2.size; (try simp at hsz2_); obtain ⟨q2_X0_0, q2_X0_1⟩ := X0.below hd2 (Nat.le_refl _); have hne2_X0 : wd2.heap.size ≠ w.heap.size := (by omega); (try (have RZ := RZ.below hbd2 (Nat.le_refl _))); (try (have RZ := (show RB2 (wd1.alloc (.cells #[.int .i64 0, .slice none 0 0] 28)) wd1.heap.size (.int .i64 0) (.slice none 0 0) from RB2.mk1 wd1 (.int .i64 0) (.slice none 0 0) _).below hbd2 (Nat.le_refl _))); (try (obtain ⟨⟨z2_0, z2_1⟩, zf2⟩ := id RZ))))
    all_goals
      go_wp2_with fail
      go_meet
      refine ⟨_, _, oz, cz, rfl, rfl, ?_, ?_, ?_, ?_, ?_⟩
      · first | omega | (simp; done) | (simp; omega)
      · first | exact RB2.mk1 _ _ _ _ | exact RB2.put RZ _ _
      · first | exact ⟨_, _, hod2.ra _, (by first | (simp; done) | (simp; omega) | omega), .inr (Nat.le_refl _), (by first | (simp; done) | (simp; omega) | omega)⟩ | exact ⟨_, _, hod2.rp2 (by first | (simp; done) | (simp; omega) | omega) _ _, (by first | (simp; done) | (simp; omega) | omega), .inl (by first | (simp; done) | (simp; omega) | omega), (by first | (simp; done) | (simp; omega) | omega)⟩
      · trivial
      · (repeat (first | exact bR _ _ | (refine bS ?_ _) | (refine bA ?_ _) | (refine bN ?_ _) | (refine bD ?_) | (refine bT ?_ hbd1) | (refine bT ?_ hbd2)))
  case rest =>
  obtain ⟨w1, b, oz, cz, rfl, rfl, hbW, O, how, hneb, hb⟩ := hcut
  (have X1 := X0.below hb (Nat.le_refl _); have R1 := R0.below hb (Nat.le_refl _); have B1 := B0.trans (hb.mono B0.size))
  obtain ⟨lo, hi, how, hlo, hbo, hhi⟩ := how
  obtain ⟨us, how⟩ := how.named
  obtain ⟨g, rfl, hgl, hgl'⟩ := how.row h1
  rw [mapTo_0 n (fun i j => f i j % m)] at how
  have B1s := B1.size
  have hlB : w.heap.size < lo := by omega
  have hRb : w.heap.size + 1 < lo := by omega
  obtain ⟨⟨q0, q1⟩, qf⟩ := id O
  go_wp2_with fail
  clear q0 q1 qf
  go_loopw [17] (fun i wr => ∃ k : Nat, k ≤ n ∧ i = .int .i64 k ∧ OwSU us lo hi wr (.slice (some ⟨g, 0, none⟩) n cz) (mapTo n (fun i j => f i j % m) k 0) ∧ Chg lo hi w1 wr) (fun i _ => n - (intOf i).toNat)
  case atStart => exact ⟨0, Nat.zero_le _, rfl, how, Chg.refl _ _ _⟩
  case round =>
    obtain ⟨k, hk, rfl, hO, hC⟩ := hrel
    by_cases hlt : k < n
    · obtain ⟨o1, c1', hu1, cx1, -, -, -⟩ := hO.at (mapTo_get hlt)
      rw [mapRow_len] at hu1 cx1
      have i0 : (0 : Int) ≤ (k : Int) := by omega
      have i1 : (k : Int) < (n : Int) := by omega
      go_wp2_with fail
      clear cx1
      go_loopw [24] (fun i w2 => ∃ j : Nat, j ≤ n - k ∧ i = .int .i64 j ∧ OwSU us lo hi w2 (.slice (some ⟨g, 0, none⟩) n cz) (mapTo n (fun i j => f i j % m) k j) ∧ Chg lo hi w1 w2) (fun i _ => n - k - (intOf i).toNat)
      case atStart => exact ⟨0, Nat.zero_le _, rfl, hO, hC⟩
      case round =>
        obtain ⟨j, hj, rfl, hO2, hC2⟩ := hrel
        have Br2 := hC2.below B1 (by omega) B1s
        by_cases hjl : j < n - k
        · obtain ⟨o2, c2', hu2, cx2, how2, hbl2, hset2⟩ := hO2.at (mapTo_get hlt)
          rw [mapRow_len] at hu2 cx2 how2 hbl2 hset2
          obtain ⟨rfl, rfl⟩ : o1 = o2 ∧ c1' = c2' := by rw [hu1] at hu2; simpa using hu2
          obtain ⟨gr, rfl, hgr1, hgr2⟩ := how2.row (by omega)
          have hgr3 := hbl2 gr rfl
          have HS2 := Lib.hid hset2
          clear cx2 hu2 hbl2 hset2
          obtain ⟨x0, x1⟩ := X1.chg hC2 (by omega)
          have hf0 := how2.fz j
          have hc0 := how2.cell (k := j) (x := 0) (by unfold mapRow; rw [mk_get (by omega)]; simp)
          have Hn := Lib.hid how2
          clear how2
          have hfk := Hf.out k j (by omega)
          have j0 : (0 : Int) ≤ (j : Int) := by omega
          have j1 : (j : Int) < ((n - k : Nat) : Int) := by omega
          have n1 : gr ≠ w.heap.size := by omega
          go_wp2_with fail
          go_region_held3 (fun w' => w'.cell? ⟨w.heap.size, 0, none⟩ = some (.int .i64 m)) (go_keep)
            (first
              | (refine (HF.out k j _ (by omega) (Br2.drew)).mono ?_; rintro e w' ⟨rfl, d, rfl⟩)
              | (go_at_call 87; refine (mod_c _ _ _ (by omega) (by omega) (by omega) (by omega)).mono ?_; rintro e w' ⟨rfl, rfl⟩))
          have hO3 := HS2.out _ _ (by rw [List.length_set, mapRow_len]) (gr_put (gr_drewN (World.grownBy.refl wr (some gr)) (1 + d)) j (.int .i64 (f k j % m))) ((Hn.out.drewN (1 + d)).put j (f k j % m))
          rw [mapTo_set (by omega)] at hO3
          have hC3 := (hC2.drewN (1 + d)).grown (grown_put (wr.drewN (1 + d)) gr j (.int .i64 (f k j % m))) hgr3.1 hgr3.2.1
          clear x0 x1 hf0 hc0 Hn HS2
          go_wp2
          exact ⟨⟨j + 1, by omega, by go_num, hO3, hC3⟩, by simp [intOf]; omega⟩
        · obtain rfl : j = n - k := by omega
          rw [mapTo_row] at hO2
          go_wp2
          exact ⟨⟨k + 1, by omega, by go_num, hO2, hC2⟩, by simp [intOf]; omega⟩
    · obtain rfl : k = n := by omega
      rw [mapTo_all] at hO
      obtain ⟨⟨z0, z1⟩, zf⟩ := O.chg hC hbo
      obtain ⟨⟨r0, r1⟩, rf⟩ := R1.chg hC (.inl hRb)
      have Br := hC.below B1 (by omega) B1s
      go_wp2
      refine bodyPost_ret (v := .agg #[.int .i64 m, .slice (some ⟨g, 0, none⟩) k cz]) (by simp [results, Tryz.results112, go_sem, r0, r1]) rfl ⟨_, rfl, ?_, ?_⟩
      · exact ((hO.r.ow.low hRb _).low hRb _).mono (by omega)
      · (repeat (first | exact bR _ _ | (refine bS ?_ _) | (refine bA ?_ _) | (refine bN ?_ _) | (refine bD ?_) | (refine bT ?_ Br)))

end Go.Proofs.YteijannfbafdpaaGreatDoor

/- Planes: the program's sums. -/
set_option linter.unusedSimpArgs false
set_option linter.unusedVariables false
namespace Go.Proofs.YteijannfbafdpaaGreatDoor
open Go.RowKit

theorem pla_at {xss : List (List Int)} {m : Int} {n i j : Nat} (hl : xss.length = n) (hx : ∀ i (hi : i < xss.length), xss[i].length = xss.length - i ∧ ∀ x ∈ xss[i], 0 ≤ x ∧ x < m) (h : i + j < n) :
    ∃ row, xss[i]? = some row ∧ row[j]? = some (atT xss i j) ∧ row.length = n - i ∧ 0 ≤ atT xss i j ∧ atT xss i j < m := by
  have hi : i < xss.length := by omega
  have h1 := hx i hi
  have h2 : atT xss i j = at0 xss[i] j := atT_row hi
  have h3 : j < xss[i].length := by omega
  refine ⟨xss[i], by simp [hi], by rw [h2]; exact some_at0 h3, by omega, ?_⟩
  rw [h2]
  exact h1.2 _ (mem_at0 h3)

set_option maxHeartbeats 1000000 in
theorem plus1_c (i j b1 b2 n : Nat) (m1 m2 M : Int) (v u : Value) (xss yss : List (List Int)) (w : World) (X : Box2 w b1 (.int .i64 m1) v) (Y : Box2 w b2 (.int .i64 m2) u) (hv : RdT w v xss) (hu : RdT w u yss)
    (hx : ∃ row, xss[i]? = some row ∧ row[j]? = some (atT xss i j) ∧ row.length = n - i ∧ 0 ≤ atT xss i j ∧ atT xss i j < M)
    (hy : ∃ row, yss[i]? = some row ∧ row[j]? = some (atT yss i j) ∧ row.length = n - i ∧ 0 ≤ atT yss i j ∧ atT yss i j < M) (hM : M ≤ 4000000000000000000) :
    Calls Tryz.prog 113 #[.int .i64 i, .int .i64 j, .pointer (some ⟨b1, 0, none⟩), .pointer (some ⟨b2, 0, none⟩)] w fun e w' => e = .returned (.int .i64 (atT xss i j + atT yss i j)) ∧ ∃ d, w' = w.drewN d := by
  obtain ⟨r1, hr1, hr1j, hl1, hx0, hx1⟩ := hx
  obtain ⟨r2, hr2, hr2j, hl2, hy0, hy1⟩ := hy
  obtain ⟨o1, c1, rfl, hm1, -⟩ := id hv
  obtain ⟨o2, c2, rfl, hm2, -⟩ := id hu
  have a1 := (List.getElem?_eq_some_iff.1 hr1).1
  have a2 := (List.getElem?_eq_some_iff.1 hr2).1
  have a3 := (List.getElem?_eq_some_iff.1 hr1j).1
  have a4 := (List.getElem?_eq_some_iff.1 hr2j).1
  obtain ⟨bx, fx, rfl, -⟩ := hv.rows (by omega)
  obtain ⟨by', fy, rfl, -⟩ := hu.rows (by omega)
  obtain ⟨p1, q1, cx, rx⟩ := hv.row hr1
  obtain ⟨p2, q2, cy, ry⟩ := hu.row hr2
  obtain ⟨bp, fp, rfl, -⟩ := rx.cells (by omega)
  obtain ⟨bq, fq, rfl, -⟩ := ry.cells (by omega)
  have ex := rx.cell0 hr1j
  have ey := ry.cell0 hr2j
  obtain ⟨x0, x1⟩ := X
  obtain ⟨y0, y1⟩ := Y
  have i0 : (0 : Int) ≤ (i : Int) := by omega
  have j0 : (0 : Int) ≤ (j : Int) := by omega
  have i1 : (i : Int) < (xss.length : Int) := by omega
  have i2 : (i : Int) < (yss.length : Int) := by omega
  have j1 : (j : Int) < (r1.length : Int) := by omega
  have j2 : (j : Int) < (r2.length : Int) := by omega
  have e1 : IntKind.i64.wrap (atT xss i j + atT yss i j) = atT xss i j + atT yss i j := IntWalk.i64_in _ (by omega)
  clear hr1 hr2 hr1j hr2j
  go_enter Tryz.func113, Tryz.ntmps113
  go_wp2
  go_quiet (fail)
  go_wp2
  go_ret
  exact ⟨rfl, _, rfl⟩
theorem plus1_callable : Callable 113 := fun args w => Tryz.call113 args w

set_option maxHeartbeats 1000000 in
set_option maxRecDepth 100000 in
theorem plusP_c (m m' : Int) (v u : Value) (xss yss : List (List Int)) (w : World) (hv : RdT w v xss) (hu : RdT w u yss) (h1 : 1 ≤ xss.length) (hn : xss.length ≤ 1000) (hl : yss.length = xss.length) (hm : 2 ≤ m) (hm' : m ≤ 1000000000000000000)
    (hx : ∀ i (hi : i < xss.length), xss[i].length = xss.length - i ∧ ∀ x ∈ xss[i], 0 ≤ x ∧ x < m) (hy : ∀ i (hi : i < yss.length), yss[i].length = yss.length - i ∧ ∀ x ∈ yss[i], 0 ≤ x ∧ x < m) :
    Calls Tryz.prog 91 #[.agg #[.int .i64 m, v], .agg #[.int .i64 m', u]] w fun e w' => PVEnd w w' m (tri xss.length (fun i j => (atT xss i j + atT yss i j) % m)) e := by
  obtain ⟨o, c, rfl, hmx, -⟩ := id hv
  obtain ⟨o', c', rfl, hmy, -⟩ := id hu
  unfold maxLen at hmx hmy
  have HL := Lib.hid hl
  have HX := Lib.hid (fun i j (h : i + j < xss.length) => pla_at rfl hx h)
  have HY := Lib.hid (fun i j (h : i + j < xss.length) => pla_at hl hy h)
  clear hl hx hy
  go_enter Tryz.func91, Tryz.ntmps91
  go_wp2_with fail
  (obtain ⟨w0, hw0⟩ : ∃ W : World, W = (((w.alloc (.cells #[.int .i64 m, .slice o xss.length c] 28)).alloc (.cells #[.int .i64 m', .slice o' yss.length c'] 28)).alloc (.cells #[.int .i64 0, .slice none 0 0] 28)) := ⟨_, rfl⟩; have X0 := (RB2.mk1 w  (.int .i64 m) (.slice o xss.length c) 28).1.below (w' := w0) (by rw [hw0]; (repeat (first | exact bR _ _ | (refine bS ?_ _) | (refine bA ?_ _) | (refine bN ?_ _) | (refine bD ?_)))) (Nat.le_refl _); have Y0 := (RB2.mk2 w (.cells #[.int .i64 m, .slice o xss.length c] 28) (.int .i64 m') (.slice o' yss.length c') 28).1.below (w' := w0) (by rw [hw0]; (repeat (first | exact bR _ _ | (refine bS ?_ _) | (refine bA ?_ _) | (refine bN ?_ _) | (refine bD ?_)))) (Nat.le_refl _); have R0 := (RB2.mk3 w (.cells #[.int .i64 m, .slice o xss.length c] 28) (.cells #[.int .i64 m', .slice o' yss.length c'] 28) (.int .i64 0) (.slice none 0 0) 28).below (w' := w0) (by rw [hw0]; (repeat (first | exact bR _ _ | (refine bS ?_ _) | (refine bA ?_ _) | (refine bN ?_ _) | (refine bD ?_)))) (Nat.le_refl _); have B0 : Below w.heap.size w w0 := (by rw [hw0]; (repeat (first | exact bR _ _ | (refine bS ?_ _) | (refine bA ?_ _) | (refine bN ?_ _) | (refine bD ?_)))); have hv0 := hv.below (w' := w0) (by rw [hw0]; (repeat (first | exact bR _ _ | (refine bS ?_ _) | (refine bA ?_ _) | (refine bN ?_ _) | (refine bD ?_)))) (Nat.le_refl _); have hu0 := hu.below (w' := w0) (by rw [hw0]; (repeat (first | exact bR _ _ | (refine bS ?_ _) | (refine bA ?_ _) | (refine bN ?_ _) | (refine bD ?_)))) (Nat.le_refl _); rw [← hw0]; clear hw0)
  obtain ⟨x0, x1⟩ := id X0
  go_wp2_with fail
  refine (mapped2_c 113 _ _ (fun i j => atT xss i j + atT yss i j) m o xss.length c _ h1 hn (by omega) hm' plus1_callable
    (fun i j h => by obtain ⟨_, _, _, _, h1, h2⟩ := HX.out i j h; obtain ⟨_, _, _, _, h3, h4⟩ := HY.out i j h; omega)
    (fun i j w1 h hb => plus1_c i j _ _ xss.length m m' m _ _ xss yss w1 (X0.below hb (Nat.le_refl _)) (Y0.below hb (Nat.le_refl _)) (hv0.below hb (Nat.le_refl _)) (hu0.below hb (Nat.le_refl _)) (HX.out i j h) (HY.out i j h) (by omega))).mono ?_
  rintro e w1 ⟨vz, rfl, how, hb⟩
  obtain ⟨oz, cz, rfl⟩ := how.shapeN (n := xss.length) (tri_len _ _)
  have hB0 := B0.size
  have hRl := R0.1.lt
  (have R1 := R0.below hb (Nat.le_refl _); have B1 := B0.trans (hb.mono B0.size))
  obtain ⟨⟨r0, r1⟩, rf⟩ := id R1
  go_wp2
  refine bodyPost_ret (v := .agg #[.int .i64 m, .slice oz xss.length cz]) (by simp [results, Tryz.results91, go_sem, r0, r1]) rfl ⟨_, rfl, ?_, ?_⟩
  · exact ((how.low hRl _).low hRl _).mono hB0
  · (repeat (first | exact bR _ _ | (refine bS ?_ _) | (refine bA ?_ _) | (refine bN ?_ _) | (refine bD ?_) | (refine bT ?_ B1)))

end Go.Proofs.YteijannfbafdpaaGreatDoor
