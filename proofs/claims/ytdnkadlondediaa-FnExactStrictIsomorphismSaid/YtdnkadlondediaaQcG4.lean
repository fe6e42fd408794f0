/- Lemmas of G4. -/
import Derived.Test.YtdnkadlondediaaQcG3
import Derived.Test.YtdnkadlondediaaQcG1
import Derived.StillTailTactics
import Derived.Deep.DeepCutAuto
import Derived.Test.YtdnkadlondediaaQcG2
/- Planes: the program's tables. -/
set_option linter.unusedSimpArgs false
set_option linter.unusedVariables false
namespace Go.Proofs.Ytdnkadlondediaa
open Go.RowKit

structure PR where
  m : Int
  xs : List (List Int)
  code : Int
def PR.bad (c : Int) : PR := ⟨0, [], c⟩
def PVEnd (w w' : World) (m : Int) (xss : List (List Int)) (e : Ending) : Prop :=
  ∃ v', e = .returned (.agg #[.int .i64 m, v']) ∧ OwS w' w.heap.size v' xss ∧ Below w.heap.size w w'

theorem RB2.put1 {w : World} {b : Nat} {x y : Value} (h : RB2 w b x y) (u : Value) : RB2 (w.setCell ⟨b, 1, none⟩ u) b x u := by
  obtain ⟨⟨h0, h1⟩, hf⟩ := h
  exact ⟨⟨(World.cell?_setCell_other w ⟨b, 1, none⟩ ⟨b, 0, none⟩ u (by simp)).trans h0, World.cell?_setCell_same _ _ _ h1⟩, fun k => by rw [World.frozen?_setCell]; exact hf k⟩

set_option maxHeartbeats 2000000 in
set_option maxRecDepth 100000 in
theorem emptyPlane_c (m d : Int) (n : Nat) (w : World) (hd : d = (n : Int) - 1) (hn : n ≤ 1000) :
    Calls Try.prog 117 #[.int .i64 m, .int .i64 d] w fun e w' => PVEnd w w' m (zeroT n) e := by
  subst hd
  go_enter Try.func117, Try.ntmps117
  go_wp2_with fail
  have B0 : Below w.heap.size w ((w.alloc (.cells #[.int .i64 0, .slice none 0 0] 32)).alloc (.cells #[.int .i64 m, .slice none 0 0] 32)) := (by (repeat (first | exact Below.refl _ _ | (refine Below.setCell ?_ (by first | (simp; done) | (simp; omega) | omega) _) | (refine Below.alloc ?_ (by first | (simp; done) | (simp; omega) | omega) _) | (refine below_drewN ?_ _) | (refine Below.drew ?_))))
  have R0 := (RB2.mk1 w (.int .i64 0) (.slice none 0 0) 32).below (w' := (w.alloc (.cells #[.int .i64 0, .slice none 0 0] 32)).alloc (.cells #[.int .i64 m, .slice none 0 0] 32)) ((by (repeat (first | exact Below.refl _ _ | (refine Below.setCell ?_ (by first | (simp; done) | (simp; omega) | omega) _) | (refine Below.alloc ?_ (by first | (simp; done) | (simp; omega) | omega) _) | (refine below_drewN ?_ _) | (refine Below.drew ?_))))) (Nat.le_refl _)
  have O0 := RB2.mk2 w (.cells #[.int .i64 0, .slice none 0 0] 32) (.int .i64 m) (.slice none 0 0) 32
  generalize (w.alloc (.cells #[.int .i64 0, .slice none 0 0] 32)).alloc (.cells #[.int .i64 m, .slice none 0 0] 32) = w0 at B0 R0 O0 ⊢
  have hO0 := O0.1.lt
  have hR0 := R0.1.lt
  go_loopw [11] (fun i wr => ∃ (k : Nat) (ov : Option Addr) (cv : Nat), k ≤ n ∧ i = .int .i64 k ∧ OwS wr w0.heap.size (.slice ov k cv) (zeroRows n k) ∧ RB2 wr (w.heap.size + 1) (.int .i64 m) (.slice ov k cv) ∧ RB2 wr w.heap.size (.int .i64 0) (.slice none 0 0) ∧ Below w.heap.size w wr ∧ w0.heap.size ≤ wr.heap.size) (fun i _ => n - (intOf i).toNat)
  case atStart => exact ⟨0, _, _, Nat.zero_le _, rfl, OwS.nil _ _, O0, R0, B0, Nat.le_refl _⟩
  case round =>
    obtain ⟨k, ov, cv, hk, rfl, hO, hB, hR, hBr, hsz⟩ := hrel
    by_cases hlt : k < n
    · obtain ⟨⟨x0, x1⟩, xf⟩ := id hB
      have HS := Lib.hid (zeroRows_snoc n k)
      have HLn := Lib.hid (zeroRows_len n k)
      generalize zeroRows n k = l at hO HS HLn
      have e1 : IntKind.i64.wrap (n : Int) = (n : Int) := IntWalk.i64_in _ (by omega)
      have e2 : IntKind.i64.wrap ((n : Int) - (k : Int)) = (n : Int) - (k : Int) := IntWalk.i64_in _ (by omega)
      go_wp2_with fail
      refine wp_region_S (S := fun w' => w'.cell? ⟨w.heap.size + 1, 1, none⟩ = some (.slice ov k cv)) 10 (by kernel_rfl) ?_
      have hHeld : (fun w' : World => w'.cell? ⟨w.heap.size + 1, 1, none⟩ = some (.slice ov k cv)) wr.drew := by go_keep
      refine' wpAnyS_takeL (i := 0) (v := _) rfl (by kernel_rfl) (by kernel_rfl) (by kernel_rfl) (by kernel_rfl) (fun _ _ _ h => h) (Or.inl ⟨by rfl, ?yE0⟩) hHeld ?rE0
      case yE0 => (intro w' hSw; (try dsimp only at hSw); go_simp; try with_reducible rfl)
      try simp only [Act.put, List.setIfInBounds_toArray, List.set_cons_zero, List.set_cons_succ]
      refine' wpAnyS_takeL (i := 1) (v := _) rfl (by kernel_rfl) (by kernel_rfl) (by kernel_rfl) (by kernel_rfl) (fun _ _ _ h => h) (Or.inl ⟨by rfl, ?yE1⟩) hHeld ?rE1
      case yE1 => (intro w' hSw; (try dsimp only at hSw); go_simp; try with_reducible rfl)
      try simp only [Act.put, List.setIfInBounds_toArray, List.set_cons_zero, List.set_cons_succ]
      refine' wpAnyS_takeL (i := 2) (v := _) rfl (by kernel_rfl) (by kernel_rfl) (by kernel_rfl) (by kernel_rfl) (fun _ _ _ h => h) (Or.inl ⟨by rfl, ?yE2⟩) hHeld ?rE2
      case yE2 => (intro w' hSw; (try dsimp only at hSw); go_simp; try with_reducible rfl)
      try simp only [Act.put, List.setIfInBounds_toArray, List.set_cons_zero, List.set_cons_succ]
      refine' wpAnyS_takeL (i := 3) (v := _) rfl (by kernel_rfl) (by kernel_rfl) (by kernel_rfl) (by kernel_rfl) (fun _ _ _ h => h) (Or.inl ⟨by rfl, ?yE3⟩) hHeld ?rE3
      case yE3 => (intro w' hSw; (try dsimp only at hSw); go_simp; try with_reducible rfl)
      try simp only [Act.put, List.setIfInBounds_toArray, List.set_cons_zero, List.set_cons_succ]
      refine' wpAnyS_takeL (i := 4) (v := _) rfl (by kernel_rfl) (by kernel_rfl) (by kernel_rfl) (by kernel_rfl) (fun _ _ _ h => h) (Or.inl ⟨by rfl, ?yE4⟩) hHeld ?rE4
      case yE4 => (intro w' hSw; (try dsimp only at hSw); go_simp; try with_reducible rfl)
      try simp only [Act.put, List.setIfInBounds_toArray, List.set_cons_zero, List.set_cons_succ]
      refine' wpAnyS_takeL (i := 5) (v := _) rfl (by kernel_rfl) (by kernel_rfl) (by kernel_rfl) (by kernel_rfl) (fun _ _ _ h => h) (Or.inl ⟨by rfl, ?yE5⟩) hHeld ?rE5
      case yE5 => (intro w' hSw; (try dsimp only at hSw); go_simp; try with_reducible rfl)
      try simp only [Act.put, List.setIfInBounds_toArray, List.set_cons_zero, List.set_cons_succ]
      clear e1 e2
      refine wpAnyS_oneL (i := 6) rfl (by kernel_rfl) (fun K hK => ?_)
      refine stMk rfl _ _ rfl _ _ _ (n - k) rfl rfl (by omega) (by omega) ?_
      intro w2 how hb2 hs2
      have hb2' : Below wr.heap.size wr w2 := ((Below.refl wr.heap.size wr).drew).trans hb2
      have how' : OwI w2 wr.heap.size (.slice (some ⟨wr.heap.size, 0, none⟩) (n - k) (n - k)) (List.replicate (n - k) 0) := how
      have hs2' : w2.heap.size = wr.heap.size + 1 := hs2
      have hz2 : wr.heap.size < w2.heap.size := by omega
      clear hs2 hs2'
      have hB2 := hB.below hb2' (Nat.le_refl _)
      refine hK.out _ _ (fun _ => hB2.1.2) ?_
      clear hK K
      try simp only [Act.put, List.setIfInBounds_toArray, List.set_cons_zero, List.set_cons_succ]
      obtain ⟨W, hW⟩ : ∃ W : World, W = w2.alloc (.cells #[.slice (some ⟨wr.heap.size, 0, none⟩) (n - k) (n - k)] 25) := ⟨_, rfl⟩
      have hWs : W.heap.size = w2.heap.size + 1 := by rw [hW]; simp
      have hbW : Below wr.heap.size wr W := by rw [hW]; exact hb2'.alloc (by omega) _
      have hT : OwSR w0.heap.size wr.heap.size W (.slice ov k cv) l := hO.toR.stay (fun j _ hj => hbW.block j hj)
      have hU : OwI W wr.heap.size (.slice (some ⟨wr.heap.size, 0, none⟩) (n - k) (n - k)) (List.replicate (n - k) 0) := by rw [hW]; exact how'.alloc _
      have hC : W.cell? ⟨w2.heap.size, 0, none⟩ = some (.slice (some ⟨wr.heap.size, 0, none⟩) (n - k) (n - k)) := by rw [hW]; simp
      have hBW := hB.below hbW (Nat.le_refl _)
      have HW := Lib.hid hW
      clear hW
      refine wpAnyS_oneL (i := 7) rfl (by kernel_rfl) (fun K hK => ?_)
      go_simp
      rw [← HW.out]
      refine hK.out _ _ (fun _ => hBW.1.2) ?_
      clear hK K
      try simp only [Act.put, List.setIfInBounds_toArray, List.set_cons_zero, List.set_cons_succ]
      refine wpAnyS_oneL (i := 8) rfl (by kernel_rfl) (fun K hK => ?_)
      refine stT W rfl _ _ rfl w0.heap.size wr.heap.size (.slice ov k cv) l rfl hT (by omega) hsz _ _ w2.heap.size rfl hC hU (by rw [HLn.out]; omega) ?_
      intro g cap w3 hO3 hgr hb3
      clear hgr
      have hB3 := hBW.belowB hb3 hO0
      have hR3 := (hR.below hbW (Nat.le_refl _)).belowB hb3 hR0
      have B3 : Below w.heap.size w w3 := (hBr.trans (hbW.mono hBr.size)).trans (hb3.mono (by omega))
      refine hK.out _ _ (fun _ => hB3.1.2) ?_
      clear hK K
      try simp only [Act.put, List.setIfInBounds_toArray, List.set_cons_zero, List.set_cons_succ]
      refine wpAnyS_oneL (i := 9) rfl (by kernel_rfl) (fun K hK => ?_)
      go_simp
      refine hK.out _ _ (fun _ => hB3.1.2) ?_
      clear hK K
      try simp only [Act.put, List.setIfInBounds_toArray, List.set_cons_zero, List.set_cons_succ]
      refine wpAnyS_oneL (i := 10) rfl (by kernel_rfl) (fun K hK => ?_)
      obtain ⟨⟨z0, z1⟩, zf⟩ := id hB3
      go_simp
      refine hK.out _ _ (fun h => absurd h (by decide)) ?_
      clear hK K
      try simp only [Act.put, List.setIfInBounds_toArray, List.set_cons_zero, List.set_cons_succ]
      refine wpAnyS_done (by kernel_rfl) ?_ _
      rw [HLn.out, ← HS.out] at hO3
      rw [HLn.out]
      go_wp2_with fail
      have hO4 := hO3.low (g := w.heap.size + 1) (k := 1) hO0 (.slice (some ⟨g, 0, none⟩) (k + 1) cap)
      have hB4 := hB3.put1 (.slice (some ⟨g, 0, none⟩) (k + 1) cap)
      have hR4 := hR3.put' (a := ⟨w.heap.size + 1, 1, none⟩) (by simp) (.slice (some ⟨g, 0, none⟩) (k + 1) cap)
      have B4 : Below w.heap.size w (w3.setCell ⟨w.heap.size + 1, 1, none⟩ (.slice (some ⟨g, 0, none⟩) (k + 1) cap)) := below_put B3 (by omega) _
      have hsz4 : w0.heap.size ≤ w3.heap.size := by have := hb3.size; omega
      exact ⟨⟨k + 1, _, _, by omega, by go_num, hO4, hB4, hR4, B4, by simpa using hsz4⟩, by simp [intOf]; omega⟩
    · obtain rfl : k = n := by omega
      rw [zeroRows_all] at hO
      obtain ⟨⟨x0, x1⟩, xf⟩ := id hB
      obtain ⟨⟨r0, r1⟩, rf⟩ := id hR
      go_wp2
      refine bodyPost_ret (v := .agg #[.int .i64 m, .slice ov k cv]) (by simp [results, Try.results117, go_sem, r0, r1]) rfl ⟨_, rfl, ?_, ?_⟩
      · exact ((hO.low (show w.heap.size < w0.heap.size by omega) _).low (show w.heap.size < w0.heap.size by omega) _).mono (by omega)
      · (repeat (first | exact Below.refl _ _ | (refine Below.setCell ?_ (by first | (simp; done) | (simp; omega) | omega) _) | (refine Below.alloc ?_ (by first | (simp; done) | (simp; omega) | omega) _) | (refine below_drewN ?_ _) | (refine Below.drew ?_) | (refine Below.trans ?_ (Below.mono hBr (by first | (simp; done) | (simp; omega) | omega)))))

end Go.Proofs.Ytdnkadlondediaa

/- Planes: the program's plane with a number for each coefficient; a number as a plane. -/
set_option linter.unusedSimpArgs false
set_option linter.unusedVariables false
namespace Go.Proofs.Ytdnkadlondediaa
open Go.RowKit

theorem OwSR.alloc {lo hi : Nat} {u : World} {v : Value} {xss : List (List Int)} (h : OwSR lo hi u v xss) (hh : hi ≤ u.heap.size) (o : Obj) : OwSR lo hi (u.alloc o) v xss :=
  h.stay (fun k _ hk => Below.heap_alloc _ _ k (by omega))
theorem heap_set_ne (u : World) (b k : Nat) (x : Value) {j : Nat} (h : j ≠ b) : (u.setCell ⟨b, k, none⟩ x).heap[j]? = u.heap[j]? := heap_setCell_other u ⟨b, k, none⟩ j x (fun e => h (by simp [e]))
theorem OwSR.put {lo hi : Nat} {u : World} {v : Value} {xss : List (List Int)} (h : OwSR lo hi u v xss) {b : Nat} (hb : b < lo ∨ hi ≤ b) (k : Nat) (x : Value) : OwSR lo hi (u.setCell ⟨b, k, none⟩ x) v xss :=
  h.stay (fun j _ _ => heap_set_ne u b k x (by omega))
theorem OwS.ra {w : World} {B : Nat} {v : Value} {xss : List (List Int)} (h : OwS w B v xss) (o : Obj) : OwSR B w.heap.size (w.alloc o) v xss := h.toR.alloc (Nat.le_refl _) o
theorem OwS.rp2 {w : World} {B b : Nat} {v : Value} {xss : List (List Int)} (h : OwS w B v xss) (hb : b < B) (x y : Value) : OwSR B w.heap.size ((w.setCell ⟨b, 0, none⟩ x).setCell ⟨b, 1, none⟩ y) v xss :=
  (h.toR.put (.inl hb) 0 x).put (.inl hb) 1 y
def mapTo (n : Nat) (g : Nat → Nat → Int) (i j : Nat) : List (List Int) := tri n (fun a b => if a < i ∨ (a = i ∧ b < j) then g a b else 0)
theorem mapTo_0 (n : Nat) (g : Nat → Nat → Int) : zeroT n = mapTo n g 0 0 := tri_ext fun i j _ => by simp
def mapRow (n : Nat) (g : Nat → Nat → Int) (i j : Nat) : List Int := mk (n - i) (fun b => if b < j then g i b else 0)
theorem mapRow_len (n : Nat) (g : Nat → Nat → Int) (i j : Nat) : (mapRow n g i j).length = n - i := mk_len _ _
theorem mapTo_get {n : Nat} {g : Nat → Nat → Int} {i j : Nat} (h : i < n) : (mapTo n g i j)[i]? = some (mapRow n g i j) := by
  unfold mapTo; rw [tri_get h]; congr 1; exact mk_ext fun b _ => by simp
theorem mapTo_set {n : Nat} {g : Nat → Nat → Int} {i j : Nat} (h : i + j < n) : (mapTo n g i j).set i ((mapRow n g i j).set j (g i j)) = mapTo n g i (j + 1) := by
  have e : mapRow n g i j = mk (n - i) ((fun a b => if a < i ∨ (a = i ∧ b < j) then g a b else 0) i) := mk_ext fun b _ => by simp
  unfold mapTo
  rw [e, tri_set h]
  refine tri_ext fun a b hab => ?_
  by_cases e1 : a = i ∧ b = j
  · obtain ⟨rfl, rfl⟩ := e1; simp
  · rw [if_neg e1]
    by_cases e2 : a < i ∨ (a = i ∧ b < j)
    · rw [if_pos e2, if_pos (by omega)]
    · rw [if_neg e2, if_neg (by omega)]
theorem mapTo_row {n : Nat} {g : Nat → Nat → Int} {i : Nat} : mapTo n g i (n - i) = mapTo n g (i + 1) 0 := tri_ext fun a b hab => by
  by_cases e : a < i ∨ (a = i ∧ b < n - i)
  · rw [if_pos e, if_pos (by omega)]
  · rw [if_neg e, if_neg (by omega)]
theorem mapTo_all (n : Nat) (g : Nat → Nat → Int) : mapTo n g n 0 = tri n g := tri_ext fun a b hab => by rw [if_pos (by omega)]

set_option maxHeartbeats 2000000 in
set_option maxRecDepth 100000 in
theorem mapped2_c (G : Nat) (c0 c1 : Value) (f : Nat → Nat → Int) (m : Int) (o : Option Addr) (n c : Nat) (w : World) (h1 : 1 ≤ n) (hn : n ≤ 1000) (hm : 1 ≤ m) (hm' : m ≤ 1000000000000000000) (hG : Callable G)
    (hf : ∀ i j, i + j < n → -9000000000000000000 ≤ f i j ∧ f i j ≤ 9000000000000000000)
    (hF : ∀ (i j : Nat) w1, i + j < n → Below w.heap.size w w1 → Calls Try.prog G #[.int .i64 i, .int .i64 j, c0, c1] w1 fun e w' => e = .returned (.int .i64 (f i j)) ∧ ∃ d, w' = w1.drewN d) :
    Calls Try.prog 118 #[.agg #[.int .i64 m, .slice o n c], .func (.func G) #[] #[c0, c1]] w fun e w' => PVEnd w w' m (tri n (fun i j => f i j % m)) e := by
  have HF := Lib.hid hF
  have Hf := Lib.hid hf
  clear hF hf
  unfold Callable at hG
  go_enter Try.func118, Try.ntmps118
  go_wp2_with fail
  (have X0 := ((RB2.mk1 w  (.int .i64 m) (.slice o n c) 32).1).below (w' := ((w.alloc (.cells #[.int .i64 m, .slice o n c] 32)).alloc (.cells #[.int .i64 0, .slice none 0 0] 32))) (by (repeat (first | exact Below.refl _ _ | (refine Below.setCell ?_ (by first | (simp; done) | (simp; omega) | omega) _) | (refine Below.alloc ?_ (by first | (simp; done) | (simp; omega) | omega) _) | (refine below_drewN ?_ _) | (refine Below.drew ?_)))) (Nat.le_refl _); have R0 := ((RB2.mk2 w (.cells #[.int .i64 m, .slice o n c] 32) (.int .i64 0) (.slice none 0 0) 32)).below (w' := ((w.alloc (.cells #[.int .i64 m, .slice o n c] 32)).alloc (.cells #[.int .i64 0, .slice none 0 0] 32))) (by (repeat (first | exact Below.refl _ _ | (refine Below.setCell ?_ (by first | (simp; done) | (simp; omega) | omega) _) | (refine Below.alloc ?_ (by first | (simp; done) | (simp; omega) | omega) _) | (refine below_drewN ?_ _) | (refine Below.drew ?_)))) (Nat.le_refl _); have B0 : Below w.heap.size w ((w.alloc (.cells #[.int .i64 m, .slice o n c] 32)).alloc (.cells #[.int .i64 0, .slice none 0 0] 32)) := (by (repeat (first | exact Below.refl _ _ | (refine Below.setCell ?_ (by first | (simp; done) | (simp; omega) | omega) _) | (refine Below.alloc ?_ (by first | (simp; done) | (simp; omega) | omega) _) | (refine below_drewN ?_ _) | (refine Below.drew ?_)))); generalize (w.alloc (.cells #[.int .i64 m, .slice o n c] 32)).alloc (.cells #[.int .i64 0, .slice none 0 0] 32) = w0 at X0 R0 B0  ⊢)
  have hzl : w.heap.size + 1 < w0.heap.size := R0.1.lt
  go_cut [5] (fun sb u => ∃ (wz : World) (b : Nat) (oz : Option Addr) (cz : Nat), wz = u ∧ sb = .pointer (some ⟨b, 0, none⟩) ∧ w0.heap.size ≤ b ∧ RB2 u b (.int .i64 m) (.slice oz n cz) ∧ (∃ lo hi, OwSR lo hi u (.slice oz n cz) (zeroT n) ∧ w0.heap.size ≤ lo ∧ (b < lo ∨ hi ≤ b) ∧ hi ≤ u.heap.size) ∧ True ∧ Below w0.heap.size w0 u)
  case first =>
    have hd0 : Below w0.heap.size w0 w0.drew := (Below.refl _ _).drew
    have hsd0 := hd0.size
    have hlb_X0 := X0.lt
    obtain ⟨q0_X0_0, q0_X0_1⟩ := X0.below (Below.refl w0.heap.size w0) (Nat.le_refl _)
    have hne0_X0 : w0.heap.size ≠ w.heap.size := by omega
    go_region_held3 (fun w' => w'.cell? ⟨w.heap.size, 0, none⟩ = some (.int .i64 m) ∧ w'.cell? ⟨w.heap.size, 1, none⟩ = some (.slice o n c)) (go_keep)
      (first
        | (go_at_call 71; refine (degreeP_c m o n c _ (by unfold maxLen; omega)).mono ?_; rintro e wd1 ⟨rfl, hbd1⟩; have hd1 : Below w0.heap.size w0 wd1 := (by (repeat (first | exact Below.refl _ _ | (refine Below.setCell ?_ (by first | (simp; done) | (simp; omega) | omega) _) | (refine Below.alloc ?_ (by first | (simp; done) | (simp; omega) | omega) _) | (refine below_drewN ?_ _) | (refine Below.drew ?_) | (refine Below.trans ?_ (Below.mono hbd1 (by first | (simp; done) | (simp; omega) | omega)))))); have hsd1 := hd1.size; have hsz1_ := hbd1.size; (try simp at hsz1_); obtain ⟨q1_X0_0, q1_X0_1⟩ := X0.below hd1 (Nat.le_refl _); have hne1_X0 : wd1.heap.size ≠ w.heap.size := (by omega); (try (have RZ := RZ.below hbd1 (Nat.le_refl _))); (try (have RZ := (show RB2 (w0.alloc (.cells #[.int .i64 0, .slice none 0 0] 32)).drew w0.heap.size (.int .i64 0) (.slice none 0 0) from RB2.mk1 w0 (.int .i64 0) (.slice none 0 0) _).below hbd1 (Nat.le_refl _))); (try (obtain ⟨⟨z1_0, z1_1⟩, zf1⟩ := id RZ)))
        | (go_at_call 117; refine (emptyPlane_c m ((n : Int) - 1) n _ rfl hn).mono ?_; rintro e wd2 ⟨vz2, rfl, hod2, hbd2⟩; obtain ⟨oz, cz, rfl⟩ := hod2.shapeN (n := n) (zeroT_len n); have hd2 : Below w0.heap.size w0 wd2 := (by (repeat (first | exact Below.refl _ _ | (refine Below.setCell ?_ (by first | (simp; done) | (simp; omega) | omega) _) | (refine Below.alloc ?_ (by first | (simp; done) | (simp; omega) | omega) _) | (refine below_drewN ?_ _) | (refine Below.drew ?_) | (refine Below.trans ?_ (Below.mono hbd1 (by first | (simp; done) | (simp; omega) | omega))) | (refine Below.trans ?_ (Below.mono hbd2 (by first | (simp; done) | (simp; omega) | omega)))))); have hsd2 := hd2.size; have hsz2_ := hbd2.size; (try simp at hsz2_); obtain ⟨q2_X0_0, q2_X0_1⟩ := X0.below hd2 (Nat.le_refl _); have hne2_X0 : wd2.heap.size ≠ w.heap.size := (by omega); (try (have RZ := RZ.below hbd2 (Nat.le_refl _))); (try (have RZ := (show RB2 (wd1.alloc (.cells #[.int .i64 0, .slice none 0 0] 32)) wd1.heap.size (.int .i64 0) (.slice none 0 0) from RB2.mk1 wd1 (.int .i64 0) (.slice none 0 0) _).below hbd2 (Nat.le_refl _))); (try (obtain ⟨⟨z2_0, z2_1⟩, zf2⟩ := id RZ))))
    all_goals
      go_wp2_with fail
      go_meet
      refine ⟨_, _, oz, cz, rfl, rfl, ?_, ?_, ?_, ?_, ?_⟩
      · first | omega | (simp; done) | (simp; omega)
      · first | exact RB2.mk1 _ _ _ _ | exact RB2.put RZ _ _
      · first | exact ⟨_, _, hod2.ra _, (by first | (simp; done) | (simp; omega) | omega), .inr (Nat.le_refl _), (by first | (simp; done) | (simp; omega) | omega)⟩ | exact ⟨_, _, hod2.rp2 (by first | (simp; done) | (simp; omega) | omega) _ _, (by first | (simp; done) | (simp; omega) | omega), .inl (by first | (simp; done) | (simp; omega) | omega), (by first | (simp; done) | (simp; omega) | omega)⟩
      · trivial
      · (repeat (first | exact Below.refl _ _ | (refine Below.setCell ?_ (by first | (simp; done) | (simp; omega) | omega) _) | (refine Below.alloc ?_ (by first | (simp; done) | (simp; omega) | omega) _) | (refine below_drewN ?_ _) | (refine Below.drew ?_) | (refine Below.trans ?_ (Below.mono hbd1 (by first | (simp; done) | (simp; omega) | omega))) | (refine Below.trans ?_ (Below.mono hbd2 (by first | (simp; done) | (simp; omega) | omega)))))
  case rest =>
  obtain ⟨w1, b, oz, cz, rfl, rfl, hbW, O, how, hneb, hb⟩ := hcut
  (have X1 := X0.below hb (Nat.le_refl _); have R1 := R0.below hb (Nat.le_refl _); have B1 := B0.trans (hb.mono B0.size))
  obtain ⟨lo, hi, how, hlo, hbo, hhi⟩ := how
  obtain ⟨us, how⟩ := how.named
  obtain ⟨g, rfl, hgl, hgl'⟩ := how.row h1
  rw [mapTo_0 n (fun i j => f i j % m)] at how
  have B1s := B1.size
  have hlB : w.heap.size < lo := by omega
  have hRb : w.heap.size + 1 < lo := by omega
  obtain ⟨⟨q0, q1⟩, qf⟩ := id O
  go_wp2_with fail
  clear q0 q1 qf
  go_loopw [17] (fun i wr => ∃ k : Nat, k ≤ n ∧ i = .int .i64 k ∧ OwSU us lo hi wr (.slice (some ⟨g, 0, none⟩) n cz) (mapTo n (fun i j => f i j % m) k 0) ∧ Chg lo hi w1 wr) (fun i _ => n - (intOf i).toNat)
  case atStart => exact ⟨0, Nat.zero_le _, rfl, how, Chg.refl _ _ _⟩
  case round =>
    obtain ⟨k, hk, rfl, hO, hC⟩ := hrel
    by_cases hlt : k < n
    · obtain ⟨o1, c1', hu1, cx1, -, -, -⟩ := hO.at (mapTo_get hlt)
      rw [mapRow_len] at hu1 cx1
      have i0 : (0 : Int) ≤ (k : Int) := by omega
      have i1 : (k : Int) < (n : Int) := by omega
      go_wp2_with fail
      clear cx1
      go_loopw [24] (fun i w2 => ∃ j : Nat, j ≤ n - k ∧ i = .int .i64 j ∧ OwSU us lo hi w2 (.slice (some ⟨g, 0, none⟩) n cz) (mapTo n (fun i j => f i j % m) k j) ∧ Chg lo hi w1 w2) (fun i _ => n - k - (intOf i).toNat)
      case atStart => exact ⟨0, Nat.zero_le _, rfl, hO, hC⟩
      case round =>
        obtain ⟨j, hj, rfl, hO2, hC2⟩ := hrel
        have Br2 := hC2.below B1 (by omega) B1s
        by_cases hjl : j < n - k
        · obtain ⟨o2, c2', hu2, cx2, how2, hbl2, hset2⟩ := hO2.at (mapTo_get hlt)
          rw [mapRow_len] at hu2 cx2 how2 hbl2 hset2
          obtain ⟨rfl, rfl⟩ : o1 = o2 ∧ c1' = c2' := by rw [hu1] at hu2; simpa using hu2
          obtain ⟨gr, rfl, hgr1, hgr2⟩ := how2.row (by omega)
          have hgr3 := hbl2 gr rfl
          have HS2 := Lib.hid hset2
          clear cx2 hu2 hbl2 hset2
          obtain ⟨x0, x1⟩ := X1.chg hC2 (by omega)
          have hf0 := how2.fz j
          have hc0 := how2.cell (k := j) (x := 0) (by unfold mapRow; rw [mk_get (by omega)]; simp)
          have Hn := Lib.hid how2
          clear how2
          have hfk := Hf.out k j (by omega)
          have j0 : (0 : Int) ≤ (j : Int) := by omega
          have j1 : (j : Int) < ((n - k : Nat) : Int) := by omega
          have n1 : gr ≠ w.heap.size := by omega
          go_wp2_with fail
          go_region_held3 (fun w' => w'.cell? ⟨w.heap.size, 0, none⟩ = some (.int .i64 m)) (go_keep)
            (first
              | (refine (HF.out k j _ (by omega) (Br2.drew)).mono ?_; rintro e w' ⟨rfl, d, rfl⟩)
              | (go_at_call 134; refine (mod_c _ _ _ (by omega) (by omega) (by omega) (by omega)).mono ?_; rintro e w' ⟨rfl, rfl⟩))
          have hO3 := HS2.out _ _ (by rw [List.length_set, mapRow_len]) (gr_put (gr_drewN (World.grownBy.refl wr (some gr)) (1 + d)) j (.int .i64 (f k j % m))) ((Hn.out.drewN (1 + d)).put j (f k j % m))
          rw [mapTo_set (by omega)] at hO3
          have hC3 := (hC2.drewN (1 + d)).grown (grown_put (wr.drewN (1 + d)) gr j (.int .i64 (f k j % m))) hgr3.1 hgr3.2.1
          clear x0 x1 hf0 hc0 Hn HS2
          go_wp2
          exact ⟨⟨j + 1, by omega, by go_num, hO3, hC3⟩, by simp [intOf]; omega⟩
        · obtain rfl : j = n - k := by omega
          rw [mapTo_row] at hO2
          go_wp2
          exact ⟨⟨k + 1, by omega, by go_num, hO2, hC2⟩, by simp [intOf]; omega⟩
    · obtain rfl : k = n := by omega
      rw [mapTo_all] at hO
      obtain ⟨⟨z0, z1⟩, zf⟩ := O.chg hC hbo
      obtain ⟨⟨r0, r1⟩, rf⟩ := R1.chg hC (.inl hRb)
      have Br := hC.below B1 (by omega) B1s
      go_wp2
      refine bodyPost_ret (v := .agg #[.int .i64 m, .slice (some ⟨g, 0, none⟩) k cz]) (by simp [results, Try.results118, go_sem, r0, r1]) rfl ⟨_, rfl, ?_, ?_⟩
      · exact ((hO.r.ow.low hRb _).low hRb _).mono (by omega)
      · (repeat (first | exact Below.refl _ _ | (refine Below.setCell ?_ (by first | (simp; done) | (simp; omega) | omega) _) | (refine Below.alloc ?_ (by first | (simp; done) | (simp; omega) | omega) _) | (refine below_drewN ?_ _) | (refine Below.drew ?_) | (refine Below.trans ?_ (Below.mono Br (by first | (simp; done) | (simp; omega) | omega)))))

end Go.Proofs.Ytdnkadlondediaa

/- Planes: the program's sums. -/
set_option linter.unusedSimpArgs false
set_option linter.unusedVariables false
namespace Go.Proofs.Ytdnkadlondediaa
open Go.RowKit

theorem pla_at {xss : List (List Int)} {m : Int} {n i j : Nat} (hl : xss.length = n) (hx : ∀ i (hi : i < xss.length), xss[i].length = xss.length - i ∧ ∀ x ∈ xss[i], 0 ≤ x ∧ x < m) (h : i + j < n) :
    ∃ row, xss[i]? = some row ∧ row[j]? = some (atT xss i j) ∧ row.length = n - i ∧ 0 ≤ atT xss i j ∧ atT xss i j < m := by
  have hi : i < xss.length := by omega
  have h1 := hx i hi
  have h2 : atT xss i j = at0 xss[i] j := atT_row hi
  have h3 : j < xss[i].length := by omega
  refine ⟨xss[i], by simp [hi], by rw [h2]; exact some_at0 h3, by omega, ?_⟩
  rw [h2]
  exact h1.2 _ (mem_at0 h3)

set_option maxHeartbeats 1000000 in
theorem plus1_c (i j b1 b2 n : Nat) (m1 m2 M : Int) (v u : Value) (xss yss : List (List Int)) (w : World) (X : Box2 w b1 (.int .i64 m1) v) (Y : Box2 w b2 (.int .i64 m2) u) (hv : RdT w v xss) (hu : RdT w u yss)
    (hx : ∃ row, xss[i]? = some row ∧ row[j]? = some (atT xss i j) ∧ row.length = n - i ∧ 0 ≤ atT xss i j ∧ atT xss i j < M)
    (hy : ∃ row, yss[i]? = some row ∧ row[j]? = some (atT yss i j) ∧ row.length = n - i ∧ 0 ≤ atT yss i j ∧ atT yss i j < M) (hM : M ≤ 4000000000000000000) :
    Calls Try.prog 119 #[.int .i64 i, .int .i64 j, .pointer (some ⟨b1, 0, none⟩), .pointer (some ⟨b2, 0, none⟩)] w fun e w' => e = .returned (.int .i64 (atT xss i j + atT yss i j)) ∧ ∃ d, w' = w.drewN d := by
  obtain ⟨r1, hr1, hr1j, hl1, hx0, hx1⟩ := hx
  obtain ⟨r2, hr2, hr2j, hl2, hy0, hy1⟩ := hy
  obtain ⟨o1, c1, rfl, hm1, -⟩ := id hv
  obtain ⟨o2, c2, rfl, hm2, -⟩ := id hu
  have a1 := (List.getElem?_eq_some_iff.1 hr1).1
  have a2 := (List.getElem?_eq_some_iff.1 hr2).1
  have a3 := (List.getElem?_eq_some_iff.1 hr1j).1
  have a4 := (List.getElem?_eq_some_iff.1 hr2j).1
  obtain ⟨bx, fx, rfl, -⟩ := hv.rows (by omega)
  obtain ⟨by', fy, rfl, -⟩ := hu.rows (by omega)
  obtain ⟨p1, q1, cx, rx⟩ := hv.row hr1
  obtain ⟨p2, q2, cy, ry⟩ := hu.row hr2
  obtain ⟨bp, fp, rfl, -⟩ := rx.cells (by omega)
  obtain ⟨bq, fq, rfl, -⟩ := ry.cells (by omega)
  have ex := rx.cell0 hr1j
  have ey := ry.cell0 hr2j
  obtain ⟨x0, x1⟩ := X
  obtain ⟨y0, y1⟩ := Y
  have i0 : (0 : Int) ≤ (i : Int) := by omega
  have j0 : (0 : Int) ≤ (j : Int) := by omega
  have i1 : (i : Int) < (xss.length : Int) := by omega
  have i2 : (i : Int) < (yss.length : Int) := by omega
  have j1 : (j : Int) < (r1.length : Int) := by omega
  have j2 : (j : Int) < (r2.length : Int) := by omega
  have e1 : IntKind.i64.wrap (atT xss i j + atT yss i j) = atT xss i j + atT yss i j := IntWalk.i64_in _ (by omega)
  clear hr1 hr2 hr1j hr2j
  go_enter Try.func119, Try.ntmps119
  go_wp2
  go_quiet (fail)
  go_wp2
  go_ret
  exact ⟨rfl, _, rfl⟩
theorem plus1_callable : Callable 119 := fun args w => Try.call119 args w

set_option maxHeartbeats 1000000 in
set_option maxRecDepth 100000 in
theorem plusP_c (m m' : Int) (v u : Value) (xss yss : List (List Int)) (w : World) (hv : RdT w v xss) (hu : RdT w u yss) (h1 : 1 ≤ xss.length) (hn : xss.length ≤ 1000) (hl : yss.length = xss.length) (hm : 2 ≤ m) (hm' : m ≤ 1000000000000000000)
    (hx : ∀ i (hi : i < xss.length), xss[i].length = xss.length - i ∧ ∀ x ∈ xss[i], 0 ≤ x ∧ x < m) (hy : ∀ i (hi : i < yss.length), yss[i].length = yss.length - i ∧ ∀ x ∈ yss[i], 0 ≤ x ∧ x < m) :
    Calls Try.prog 58 #[.agg #[.int .i64 m, v], .agg #[.int .i64 m', u]] w fun e w' => PVEnd w w' m (tri xss.length (fun i j => (atT xss i j + atT yss i j) % m)) e := by
  obtain ⟨o, c, rfl, hmx, -⟩ := id hv
  obtain ⟨o', c', rfl, hmy, -⟩ := id hu
  unfold maxLen at hmx hmy
  have HL := Lib.hid hl
  have HX := Lib.hid (fun i j (h : i + j < xss.length) => pla_at rfl hx h)
  have HY := Lib.hid (fun i j (h : i + j < xss.length) => pla_at hl hy h)
  clear hl hx hy
  go_enter Try.func58, Try.ntmps58
  go_wp2_with fail
  (have X0 := ((RB2.mk1 w  (.int .i64 m) (.slice o xss.length c) 32).1).below (w' := (((w.alloc (.cells #[.int .i64 m, .slice o xss.length c] 32)).alloc (.cells #[.int .i64 m', .slice o' yss.length c'] 32)).alloc (.cells #[.int .i64 0, .slice none 0 0] 32))) (by (repeat (first | exact Below.refl _ _ | (refine Below.setCell ?_ (by first | (simp; done) | (simp; omega) | omega) _) | (refine Below.alloc ?_ (by first | (simp; done) | (simp; omega) | omega) _) | (refine below_drewN ?_ _) | (refine Below.drew ?_)))) (Nat.le_refl _); have Y0 := ((RB2.mk2 w (.cells #[.int .i64 m, .slice o xss.length c] 32) (.int .i64 m') (.slice o' yss.length c') 32).1).below (w' := (((w.alloc (.cells #[.int .i64 m, .slice o xss.length c] 32)).alloc (.cells #[.int .i64 m', .slice o' yss.length c'] 32)).alloc (.cells #[.int .i64 0, .slice none 0 0] 32))) (by (repeat (first | exact Below.refl _ _ | (refine Below.setCell ?_ (by first | (simp; done) | (simp; omega) | omega) _) | (refine Below.alloc ?_ (by first | (simp; done) | (simp; omega) | omega) _) | (refine below_drewN ?_ _) | (refine Below.drew ?_)))) (Nat.le_refl _); have R0 := ((RB2.mk3 w (.cells #[.int .i64 m, .slice o xss.length c] 32) (.cells #[.int .i64 m', .slice o' yss.length c'] 32) (.int .i64 0) (.slice none 0 0) 32)).below (w' := (((w.alloc (.cells #[.int .i64 m, .slice o xss.length c] 32)).alloc (.cells #[.int .i64 m', .slice o' yss.length c'] 32)).alloc (.cells #[.int .i64 0, .slice none 0 0] 32))) (by (repeat (first | exact Below.refl _ _ | (refine Below.setCell ?_ (by first | (simp; done) | (simp; omega) | omega) _) | (refine Below.alloc ?_ (by first | (simp; done) | (simp; omega) | omega) _) | (refine below_drewN ?_ _) | (refine Below.drew ?_)))) (Nat.le_refl _); have B0 : Below w.heap.size w (((w.alloc (.cells #[.int .i64 m, .slice o xss.length c] 32)).alloc (.cells #[.int .i64 m', .slice o' yss.length c'] 32)).alloc (.cells #[.int .i64 0, .slice none 0 0] 32)) := (by (repeat (first | exact Below.refl _ _ | (refine Below.setCell ?_ (by first | (simp; done) | (simp; omega) | omega) _) | (refine Below.alloc ?_ (by first | (simp; done) | (simp; omega) | omega) _) | (refine below_drewN ?_ _) | (refine Below.drew ?_)))); have hv0 := hv.below (w' := (((w.alloc (.cells #[.int .i64 m, .slice o xss.length c] 32)).alloc (.cells #[.int .i64 m', .slice o' yss.length c'] 32)).alloc (.cells #[.int .i64 0, .slice none 0 0] 32))) (by (repeat (first | exact Below.refl _ _ | (refine Below.setCell ?_ (by first | (simp; done) | (simp; omega) | omega) _) | (refine Below.alloc ?_ (by first | (simp; done) | (simp; omega) | omega) _) | (refine below_drewN ?_ _) | (refine Below.drew ?_)))) (Nat.le_refl _); have hu0 := hu.below (w' := (((w.alloc (.cells #[.int .i64 m, .slice o xss.length c] 32)).alloc (.cells #[.int .i64 m', .slice o' yss.length c'] 32)).alloc (.cells #[.int .i64 0, .slice none 0 0] 32))) (by (repeat (first | exact Below.refl _ _ | (refine Below.setCell ?_ (by first | (simp; done) | (simp; omega) | omega) _) | (refine Below.alloc ?_ (by first | (simp; done) | (simp; omega) | omega) _) | (refine below_drewN ?_ _) | (refine Below.drew ?_)))) (Nat.le_refl _); generalize ((w.alloc (.cells #[.int .i64 m, .slice o xss.length c] 32)).alloc (.cells #[.int .i64 m', .slice o' yss.length c'] 32)).alloc (.cells #[.int .i64 0, .slice none 0 0] 32) = w0 at X0 Y0 R0 B0 hv0 hu0 ⊢)
  obtain ⟨x0, x1⟩ := id X0
  go_wp2_with fail
  refine (mapped2_c 119 _ _ (fun i j => atT xss i j + atT yss i j) m o xss.length c _ h1 hn (by omega) hm' plus1_callable
    (fun i j h => by obtain ⟨_, _, _, _, h1, h2⟩ := HX.out i j h; obtain ⟨_, _, _, _, h3, h4⟩ := HY.out i j h; omega)
    (fun i j w1 h hb => plus1_c i j _ _ xss.length m m' m _ _ xss yss w1 (X0.below hb (Nat.le_refl _)) (Y0.below hb (Nat.le_refl _)) (hv0.below hb (Nat.le_refl _)) (hu0.below hb (Nat.le_refl _)) (HX.out i j h) (HY.out i j h) (by omega))).mono ?_
  rintro e w1 ⟨vz, rfl, how, hb⟩
  obtain ⟨oz, cz, rfl⟩ := how.shapeN (n := xss.length) (tri_len _ _)
  have hB0 := B0.size
  have hRl := R0.1.lt
  (have R1 := R0.below hb (Nat.le_refl _); have B1 := B0.trans (hb.mono B0.size))
  obtain ⟨⟨r0, r1⟩, rf⟩ := id R1
  go_wp2
  refine bodyPost_ret (v := .agg #[.int .i64 m, .slice oz xss.length cz]) (by simp [results, Try.results58, go_sem, r0, r1]) rfl ⟨_, rfl, ?_, ?_⟩
  · exact ((how.low hRl _).low hRl _).mono hB0
  · (repeat (first | exact Below.refl _ _ | (refine Below.setCell ?_ (by first | (simp; done) | (simp; omega) | omega) _) | (refine Below.alloc ?_ (by first | (simp; done) | (simp; omega) | omega) _) | (refine below_drewN ?_ _) | (refine Below.drew ?_) | (refine Below.trans ?_ (Below.mono B1 (by first | (simp; done) | (simp; omega) | omega)))))

end Go.Proofs.Ytdnkadlondediaa

/- Sums of planes: the program and the reference. -/
set_option linter.unusedSimpArgs false
set_option linter.unusedVariables false
namespace Go.Proofs.Ytdnkadlondediaa
open Go.RowKit

end Go.Proofs.Ytdnkadlondediaa

/- Planes: the reference's tables. -/
set_option linter.unusedSimpArgs false
set_option linter.unusedVariables false
namespace Go.Proofs.Ytdnkadlondediaa
open Go.RowKit

set_option maxHeartbeats 1000000 in
set_option maxRecDepth 100000 in
theorem l03Zero_c (d : Int) (n : Nat) (w : World) (hd : d = (n : Int) - 1) (hn : n ≤ 1000) :
    Calls Try.prog 108 #[.int .i64 d] w fun e w' => ∃ v', e = .returned v' ∧ OwS w' w.heap.size v' (zeroT n) ∧ Below w.heap.size w w' := by
  subst hd
  go_enter Try.func108, Try.ntmps108
  go_wp2_with fail
  have O1 := OwS.lit0 w
  have B1 : Below w.heap.size w (w.alloc (.cells #[] 25)) := (by (repeat (first | exact Below.refl _ _ | (refine Below.setCell ?_ (by first | (simp; done) | (simp; omega) | omega) _) | (refine Below.alloc ?_ (by first | (simp; done) | (simp; omega) | omega) _) | (refine below_drewN ?_ _) | (refine Below.drew ?_))))
  generalize w.alloc (.cells #[] 25) = w1 at O1 B1 ⊢
  go_loopw [3, 4] (fun s i wr => ∃ (k : Nat) (ov : Option Addr) (cv : Nat), k ≤ n ∧ i = .int .i64 k ∧ s = .slice ov k cv ∧ OwS wr w.heap.size (.slice ov k cv) (zeroRows n k) ∧ Below w.heap.size w wr) (fun _ i _ => n - (intOf i).toNat)
  case atStart => exact ⟨0, _, _, Nat.zero_le _, rfl, rfl, O1, B1⟩
  case round =>
    obtain ⟨k, ov, cv, hk, rfl, rfl, hO, hB⟩ := hrel
    by_cases hlt : k < n
    · have i1 : (k : Int) ≤ (n : Int) - 1 := by omega
      have hBs := hB.size
      have HS := Lib.hid (zeroRows_snoc n k)
      have HLn := Lib.hid (zeroRows_len n k)
      generalize zeroRows n k = l at hO HS HLn
      go_wp2_with (first
        | (at_make; go_loud (refine mkI _ rfl _ _ rfl _ _ _ (n - k) rfl rfl (by omega) (by omega) ?_; intro w2 how hb2 hs2; have hz2 : wr.heap.size < w2.heap.size := (by omega); clear hs2))
        | (at_builtin; obtain ⟨W, hW⟩ : ∃ W : World, W = w2.alloc (.cells #[.slice (some ⟨wr.heap.size, 0, none⟩) (n - k) (n - k)] 25) := ⟨_, rfl⟩; have hWs : W.heap.size = w2.heap.size + 1 := (by rw [hW]; simp); have hT : OwSR w.heap.size wr.heap.size W (.slice ov k cv) l := (by rw [hW]; exact hO.toR.stay (fun j _ hj => (Below.heap_alloc _ _ j (by omega)).trans (hb2.block j hj))); have hU : OwI W wr.heap.size (.slice (some ⟨wr.heap.size, 0, none⟩) (n - k) (n - k)) (List.replicate (n - k) 0) := (by rw [hW]; exact how.alloc _); have hC : W.cell? ⟨w2.heap.size, 0, none⟩ = some (.slice (some ⟨wr.heap.size, 0, none⟩) (n - k) (n - k)) := (by rw [hW]; simp); have B3 : Below w.heap.size w W := (by rw [hW]; exact hB.trans ((((Below.refl wr.heap.size wr).trans hb2).alloc (Nat.le_of_lt hz2) _).mono hBs)); rw [← hW]; have HW := Lib.hid hW; clear hW; go_loud (refine apT W rfl _ _ rfl w.heap.size wr.heap.size (.slice ov k cv) l rfl hT (by omega) hBs _ _ w2.heap.size rfl hC hU (by rw [HLn.out]; omega) ?_; intro g cap w3 hO3 hgr hb3; clear hgr; have B4 := B3.trans hb3)))
      rw [HLn.out, ← HS.out] at hO3
      exact ⟨⟨k + 1, _, _, by omega, by go_num, by rw [HLn.out], hO3, B4⟩, by simp [intOf]; omega⟩
    · obtain rfl : k = n := by omega
      have i1 : ¬ (k : Int) ≤ (k : Int) - 1 := by omega
      rw [zeroRows_all] at hO
      go_wp2
      go_ret
      exact ⟨_, rfl, hO, hB⟩

end Go.Proofs.Ytdnkadlondediaa

/- Planes: the program's product. -/
set_option linter.unusedSimpArgs false
set_option linter.unusedVariables false
namespace Go.Proofs.Ytdnkadlondediaa
open Go.RowKit

theorem PlaT.at {m : Int} {n : Nat} {t : List (List Int)} (h : PlaT m n t) {i j : Nat} (hij : i + j < n) : ∃ row, t[i]? = some row ∧ row[j]? = some (atT t i j) ∧ row.length = n - i ∧ 0 ≤ atT t i j ∧ atT t i j < m :=
  pla_at h.1 h.2 hij
theorem PlaT.row {m : Int} {n : Nat} {t : List (List Int)} (h : PlaT m n t) {i : Nat} (hi : i < n) : ∃ row, t[i]? = some row ∧ row.length = n - i ∧ (∀ j, j < n - i → row[j]? = some (atT t i j)) := by
  have hi' : i < t.length := by rw [h.1]; exact hi
  have h1 := h.2 i hi'
  refine ⟨t[i], by simp [hi'], by rw [h1.1, h.1], fun j hj => ?_⟩
  rw [atT_row hi']
  exact some_at0 (by rw [h1.1, h.1]; exact hj)

set_option maxHeartbeats 4000000 in
set_option maxRecDepth 100000 in
theorem timesP_c (m m' : Int) (n : Nat) (v u : Value) (xss yss : List (List Int)) (w : World) (hv : RdT w v xss) (hu : RdT w u yss) (h1 : 1 ≤ n) (hn : n ≤ 1000) (hm : 2 ≤ m) (hm' : m ≤ 3000000000)
    (hx : PlaT m n xss) (hy : PlaT m n yss) :
    Calls Try.prog 113 #[.agg #[.int .i64 m, v], .agg #[.int .i64 m', u]] w fun e w' => PVEnd w w' m (timesT m n xss yss) e := by
  obtain ⟨o, c, rfl, hmx, -⟩ := id hv
  obtain ⟨o', c', rfl, hmy, -⟩ := id hu
  rw [hx.1] at hmx ⊢
  rw [hy.1] at hmy ⊢
  unfold maxLen at hmx hmy
  have hv' : RdT w (.slice o n c) xss := by rw [hx.1] at hv; exact hv
  have hu' : RdT w (.slice o' n c') yss := by rw [hy.1] at hu; exact hu
  clear hv hu
  have HX := Lib.hid hx
  have HY := Lib.hid hy
  have hxl := hx.1
  have hyl := hy.1
  clear hx hy
  obtain ⟨bx, fx, rfl, -⟩ := hv'.rows (by omega)
  obtain ⟨by', fy, rfl, -⟩ := hu'.rows (by omega)
  clear hxl hyl
  go_enter Try.func113, Try.ntmps113
  go_wp2_with fail
  (have X0 := ((RB2.mk1 w  (.int .i64 m) (.slice (some ⟨bx, fx, none⟩) n c) 32).1).below (w' := (((w.alloc (.cells #[.int .i64 m, .slice (some ⟨bx, fx, none⟩) n c] 32)).alloc (.cells #[.int .i64 m', .slice (some ⟨by', fy, none⟩) n c'] 32)).alloc (.cells #[.int .i64 0, .slice none 0 0] 32))) (by (repeat (first | exact Below.refl _ _ | (refine Below.setCell ?_ (by first | (simp; done) | (simp; omega) | omega) _) | (refine Below.alloc ?_ (by first | (simp; done) | (simp; omega) | omega) _) | (refine below_drewN ?_ _) | (refine Below.drew ?_)))) (Nat.le_refl _); have Y0 := ((RB2.mk2 w (.cells #[.int .i64 m, .slice (some ⟨bx, fx, none⟩) n c] 32) (.int .i64 m') (.slice (some ⟨by', fy, none⟩) n c') 32).1).below (w' := (((w.alloc (.cells #[.int .i64 m, .slice (some ⟨bx, fx, none⟩) n c] 32)).alloc (.cells #[.int .i64 m', .slice (some ⟨by', fy, none⟩) n c'] 32)).alloc (.cells #[.int .i64 0, .slice none 0 0] 32))) (by (repeat (first | exact Below.refl _ _ | (refine Below.setCell ?_ (by first | (simp; done) | (simp; omega) | omega) _) | (refine Below.alloc ?_ (by first | (simp; done) | (simp; omega) | omega) _) | (refine below_drewN ?_ _) | (refine Below.drew ?_)))) (Nat.le_refl _); have R0 := ((RB2.mk3 w (.cells #[.int .i64 m, .slice (some ⟨bx, fx, none⟩) n c] 32) (.cells #[.int .i64 m', .slice (some ⟨by', fy, none⟩) n c'] 32) (.int .i64 0) (.slice none 0 0) 32)).below (w' := (((w.alloc (.cells #[.int .i64 m, .slice (some ⟨bx, fx, none⟩) n c] 32)).alloc (.cells #[.int .i64 m', .slice (some ⟨by', fy, none⟩) n c'] 32)).alloc (.cells #[.int .i64 0, .slice none 0 0] 32))) (by (repeat (first | exact Below.refl _ _ | (refine Below.setCell ?_ (by first | (simp; done) | (simp; omega) | omega) _) | (refine Below.alloc ?_ (by first | (simp; done) | (simp; omega) | omega) _) | (refine below_drewN ?_ _) | (refine Below.drew ?_)))) (Nat.le_refl _); have B0 : Below w.heap.size w (((w.alloc (.cells #[.int .i64 m, .slice (some ⟨bx, fx, none⟩) n c] 32)).alloc (.cells #[.int .i64 m', .slice (some ⟨by', fy, none⟩) n c'] 32)).alloc (.cells #[.int .i64 0, .slice none 0 0] 32)) := (by (repeat (first | exact Below.refl _ _ | (refine Below.setCell ?_ (by first | (simp; done) | (simp; omega) | omega) _) | (refine Below.alloc ?_ (by first | (simp; done) | (simp; omega) | omega) _) | (refine below_drewN ?_ _) | (refine Below.drew ?_)))); generalize ((w.alloc (.cells #[.int .i64 m, .slice (some ⟨bx, fx, none⟩) n c] 32)).alloc (.cells #[.int .i64 m', .slice (some ⟨by', fy, none⟩) n c'] 32)).alloc (.cells #[.int .i64 0, .slice none 0 0] 32) = w0 at X0 Y0 R0 B0  ⊢)
  have hzl : w.heap.size + 2 < w0.heap.size := R0.1.lt
  go_cut [5] (fun sb u => ∃ (wz : World) (b : Nat) (oz : Option Addr) (cz : Nat), wz = u ∧ sb = .pointer (some ⟨b, 0, none⟩) ∧ w0.heap.size ≤ b ∧ RB2 u b (.int .i64 m) (.slice oz n cz) ∧ (∃ lo hi, OwSR lo hi u (.slice oz n cz) (zeroT n) ∧ w0.heap.size ≤ lo ∧ (b < lo ∨ hi ≤ b) ∧ hi ≤ u.heap.size) ∧ True ∧ Below w0.heap.size w0 u)
  case first =>
    have hd0 : Below w0.heap.size w0 w0.drew := (Below.refl _ _).drew
    have hsd0 := hd0.size
    have hlb_X0 := X0.lt
    obtain ⟨q0_X0_0, q0_X0_1⟩ := X0.below (Below.refl w0.heap.size w0) (Nat.le_refl _)
    have hne0_X0 : w0.heap.size ≠ w.heap.size := by omega
    go_region_held3 (fun w' => w'.cell? ⟨w.heap.size, 0, none⟩ = some (.int .i64 m) ∧ w'.cell? ⟨w.heap.size, 1, none⟩ = some (.slice (some ⟨bx, fx, none⟩) n c)) (go_keep)
      (first
        | (go_at_call 71; refine (degreeP_c m (some ⟨bx, fx, none⟩) n c _ (by unfold maxLen; omega)).mono ?_; rintro e wd1 ⟨rfl, hbd1⟩; have hd1 : Below w0.heap.size w0 wd1 := (by (repeat (first | exact Below.refl _ _ | (refine Below.setCell ?_ (by first | (simp; done) | (simp; omega) | omega) _) | (refine Below.alloc ?_ (by first | (simp; done) | (simp; omega) | omega) _) | (refine below_drewN ?_ _) | (refine Below.drew ?_) | (refine Below.trans ?_ (Below.mono hbd1 (by first | (simp; done) | (simp; omega) | omega)))))); have hsd1 := hd1.size; have hsz1_ := hbd1.size; (try simp at hsz1_); obtain ⟨q1_X0_0, q1_X0_1⟩ := X0.below hd1 (Nat.le_refl _); have hne1_X0 : wd1.heap.size ≠ w.heap.size := (by omega); (try (have RZ := RZ.below hbd1 (Nat.le_refl _))); (try (have RZ := (show RB2 (w0.alloc (.cells #[.int .i64 0, .slice none 0 0] 32)).drew w0.heap.size (.int .i64 0) (.slice none 0 0) from RB2.mk1 w0 (.int .i64 0) (.slice none 0 0) _).below hbd1 (Nat.le_refl _))); (try (obtain ⟨⟨z1_0, z1_1⟩, zf1⟩ := id RZ)))
        | (go_at_call 117; refine (emptyPlane_c m ((n : Int) - 1) n _ rfl hn).mono ?_; rintro e wd2 ⟨vz2, rfl, hod2, hbd2⟩; obtain ⟨oz, cz, rfl⟩ := hod2.shapeN (n := n) (zeroT_len n); have hd2 : Below w0.heap.size w0 wd2 := (by (repeat (first | exact Below.refl _ _ | (refine Below.setCell ?_ (by first | (simp; done) | (simp; omega) | omega) _) | (refine Below.alloc ?_ (by first | (simp; done) | (simp; omega) | omega) _) | (refine below_drewN ?_ _) | (refine Below.drew ?_) | (refine Below.trans ?_ (Below.mono hbd1 (by first | (simp; done) | (simp; omega) | omega))) | (refine Below.trans ?_ (Below.mono hbd2 (by first | (simp; done) | (simp; omega) | omega)))))); have hsd2 := hd2.size; have hsz2_ := hbd2.size; (try simp at hsz2_); obtain ⟨q2_X0_0, q2_X0_1⟩ := X0.below hd2 (Nat.le_refl _); have hne2_X0 : wd2.heap.size ≠ w.heap.size := (by omega); (try (have RZ := RZ.below hbd2 (Nat.le_refl _))); (try (have RZ := (show RB2 (wd1.alloc (.cells #[.int .i64 0, .slice none 0 0] 32)) wd1.heap.size (.int .i64 0) (.slice none 0 0) from RB2.mk1 wd1 (.int .i64 0) (.slice none 0 0) _).below hbd2 (Nat.le_refl _))); (try (obtain ⟨⟨z2_0, z2_1⟩, zf2⟩ := id RZ))))
    all_goals
      go_wp2_with fail
      go_meet
      refine ⟨_, _, oz, cz, rfl, rfl, ?_, ?_, ?_, ?_, ?_⟩
      · first | omega | (simp; done) | (simp; omega)
      · first | exact RB2.mk1 _ _ _ _ | exact RB2.put RZ _ _
      · first | exact ⟨_, _, hod2.ra _, (by first | (simp; done) | (simp; omega) | omega), .inr (Nat.le_refl _), (by first | (simp; done) | (simp; omega) | omega)⟩ | exact ⟨_, _, hod2.rp2 (by first | (simp; done) | (simp; omega) | omega) _ _, (by first | (simp; done) | (simp; omega) | omega), .inl (by first | (simp; done) | (simp; omega) | omega), (by first | (simp; done) | (simp; omega) | omega)⟩
      · trivial
      · (repeat (first | exact Below.refl _ _ | (refine Below.setCell ?_ (by first | (simp; done) | (simp; omega) | omega) _) | (refine Below.alloc ?_ (by first | (simp; done) | (simp; omega) | omega) _) | (refine below_drewN ?_ _) | (refine Below.drew ?_) | (refine Below.trans ?_ (Below.mono hbd1 (by first | (simp; done) | (simp; omega) | omega))) | (refine Below.trans ?_ (Below.mono hbd2 (by first | (simp; done) | (simp; omega) | omega)))))
  case rest =>
  obtain ⟨w1, b, oz, cz, rfl, rfl, hbW, O, how, hneb, hb⟩ := hcut
  (have X1 := X0.below hb (Nat.le_refl _); have Y1 := Y0.below hb (Nat.le_refl _); have R1 := R0.below hb (Nat.le_refl _); have B1 := B0.trans (hb.mono B0.size))
  obtain ⟨lo, hi, how, hlo, hbo, hhi⟩ := how
  obtain ⟨us, how⟩ := how.named
  obtain ⟨g, rfl, hgl, hgl'⟩ := how.row h1
  rw [tmT_0 m n xss yss] at how
  obtain ⟨x0, x1⟩ := id X1
  go_wp2_with fail
  refine (degreeP_c m (some ⟨bx, fx, none⟩) n c _ (by unfold maxLen; omega)).mono ?_
  rintro e w2 ⟨rfl, hb2⟩
  (have X2 := X1.below hb2 (Nat.le_refl _); have Y2 := Y1.below hb2 (Nat.le_refl _); have R2 := R1.below hb2 (Nat.le_refl _); have B2 := B1.trans (hb2.mono B1.size))
  have O2 := O.below hb2 (Nat.le_refl _)
  have how2 := how.stay (u' := w2) (fun k _ hk => hb2.block k (by omega))
  clear O how x0 x1 hb2
  have B2s := B2.size
  have hlB : w.heap.size + 2 < lo := by omega
  have m0 : (m == 0) = false := by simp; omega
  have m1 : ¬ m = 0 := by omega
  obtain ⟨x0, x1⟩ := id X2
  go_wp2_with fail
  clear x0 x1
  go_loopw [24] (fun s wr => ∃ i : Nat, i ≤ n ∧ s = .int .i64 i ∧ OwSU us lo hi wr (.slice (some ⟨g, 0, none⟩) n cz) (tmT m n xss yss i 0 0 0) ∧ Chg lo hi w2 wr) (fun i _ => n - (intOf i).toNat)
  case atStart => exact ⟨0, Nat.zero_le _, rfl, how2, Chg.refl _ _ _⟩
  case round =>
    obtain ⟨i, hi', rfl, hO, hC⟩ := hrel
    by_cases hlt : i < n
    · obtain ⟨r1, hr1, hl1, hj1⟩ := HX.out.row hlt
      obtain ⟨p1, q1, cx0, rx0⟩ := hv'.row hr1
      rw [hl1] at cx0 rx0
      obtain ⟨b1, f1, rfl, -⟩ := rx0.cells (by omega)
      have Br := hC.below B2 (by omega) B2s
      have cx := keep_cell Br (Nat.le_refl _) cx0
      have i0 : (0 : Int) ≤ (i : Int) := by omega
      have i1 : (i : Int) < (n : Int) := by omega
      have HJ := Lib.hid hj1
      clear hr1 hl1 hj1 cx0
      go_wp2_with fail
      clear cx
      go_loopw [31] (fun s wr => ∃ j : Nat, j ≤ n - i ∧ s = .int .i64 j ∧ OwSU us lo hi wr (.slice (some ⟨g, 0, none⟩) n cz) (tmT m n xss yss i j 0 0) ∧ Chg lo hi w2 wr) (fun i' _ => n - i - (intOf i').toNat)
      case atStart => exact ⟨0, Nat.zero_le _, rfl, hO, hC⟩
      case round =>
        obtain ⟨j, hj, rfl, hO, hC⟩ := hrel
        have Br := hC.below B2 (by omega) B2s
        by_cases hjl : j < n - i
        · have ex := (rx0.below Br (Nat.le_refl _)).cell0 (HJ.out j hjl)
          obtain ⟨-, -, -, -, hxa, hxb⟩ := HX.out.at (i := i) (j := j) (by omega)
          have j0 : (0 : Int) ≤ (j : Int) := by omega
          have j1 : (j : Int) < ((n - i : Nat) : Int) := by omega
          cases hx0 : (atT xss i j == 0)
          · go_wp2_with fail
            clear ex
            go_loopw [11] (fun s wr => ∃ k : Nat, k ≤ n - i - j ∧ s = .int .i64 k ∧ OwSU us lo hi wr (.slice (some ⟨g, 0, none⟩) n cz) (tmT m n xss yss i j k 0) ∧ Chg lo hi w2 wr) (fun i' _ => n - i - j - (intOf i').toNat)
            case atStart => exact ⟨0, Nat.zero_le _, rfl, hO, hC⟩
            case round =>
              obtain ⟨k, hk, rfl, hO, hC⟩ := hrel
              have Br := hC.below B2 (by omega) B2s
              by_cases hkl : k < n - i - j
              · obtain ⟨r2, hr2, hl2, hj2⟩ := HY.out.row (show k < n by omega)
                obtain ⟨p2, q2, cy0, ry0⟩ := hu'.row hr2
                rw [hl2] at cy0 ry0
                obtain ⟨-, -, hq2⟩ := ry0.len
                rw [hl2] at hq2
                obtain ⟨b2, f2, rfl, -⟩ := ry0.cells (by omega)
                have cy := keep_cell Br (Nat.le_refl _) cy0
                obtain ⟨y0, y1⟩ := Y2.chg hC (by omega)
                have HJ2 := Lib.hid hj2
                clear hr2 hl2 hj2 cy0
                have k0 : (0 : Int) ≤ (k : Int) := by omega
                have k1 : (k : Int) < (n : Int) := by omega
                have k2 : (i : Int) + (j : Int) + (k : Int) ≤ (n : Int) - 1 := by omega
                have k3 : (0 : Int) ≤ (n : Int) - 1 - (i : Int) - (j : Int) - (k : Int) + 1 := by omega
                have k4 : (n : Int) - 1 - (i : Int) - (j : Int) - (k : Int) + 1 ≤ (q2 : Int) := by omega
                have k5 : ((n : Int) - 1 - (i : Int) - (j : Int) - (k : Int) + 1).toNat = n - i - j - k := by omega
                go_wp2_with fail
                clear cy y0 y1
                go_loopw [62] (fun s wr => ∃ l : Nat, l ≤ n - i - j - k ∧ s = .int .i64 l ∧ OwSU us lo hi wr (.slice (some ⟨g, 0, none⟩) n cz) (tmT m n xss yss i j k l) ∧ Chg lo hi w2 wr) (fun i' _ => n - i - j - k - (intOf i').toNat)
                case atStart => exact ⟨0, Nat.zero_le _, rfl, hO, hC⟩
                case round =>
                  obtain ⟨l, hl, rfl, hO, hC⟩ := hrel
                  have Br := hC.below B2 (by omega) B2s
                  by_cases hll : l < n - i - j - k
                  · have ey := (ry0.below Br (Nat.le_refl _)).cell0 (HJ2.out l (by omega))
                    obtain ⟨-, -, -, -, hya, hyb⟩ := HY.out.at (i := k) (j := l) (by omega)
                    obtain ⟨o3, c3, hu3, cx3, how3, hbl3, hset3⟩ := hO.at (tmT_row' (show i + k < n by omega))
                    rw [tmTr_len] at hu3 cx3 how3 hbl3 hset3
                    obtain ⟨gr, rfl, hgr1, hgr2⟩ := how3.row (by omega)
                    have hgr3 := hbl3 gr rfl
                    have hc0 := how3.cell (k := j + l) (tmTr_get (show i + k + (j + l) < n by omega))
                    have hf0 := how3.fz (j + l)
                    have hN := Lib.hid how3
                    have hS := Lib.hid hset3
                    clear how3 hset3 hbl3 hu3
                    obtain ⟨x0, x1⟩ := X2.chg hC (by omega)
                    obtain ⟨⟨z0, z1⟩, zf⟩ := O2.chg hC hbo
                    have l0 : (0 : Int) ≤ (l : Int) := by omega
                    have l1 : (l : Int) < ((n - i - j - k : Nat) : Int) := by omega
                    have l2 : (0 : Int) ≤ (i : Int) + (k : Int) := by omega
                    have l3 : (i : Int) + (k : Int) < (n : Int) := by omega
                    have l4 : ((i : Int) + (k : Int)).toNat = i + k := by omega
                    have l5 : (0 : Int) ≤ (j : Int) + (l : Int) := by omega
                    have l6 : (j : Int) + (l : Int) < ((n - (i + k) : Nat) : Int) := by omega
                    have l7 : ((j : Int) + (l : Int)).toNat = j + l := by omega
                    have hM := mod_lt' (a := atT xss i j * atT yss k l) (show 0 < m by omega)
                    have hCm := mod_lt' (a := c2P n (atT xss) (atT yss) i j k l (i + k) (j + l)) (show 0 < m by omega)
                    have hMod := mod_lt' (a := c2P n (atT xss) (atT yss) i j k l (i + k) (j + l) % m + atT xss i j * atT yss k l % m) (show 0 < m by omega)
                    go_wp2_with fail
                    have e0 : IntKind.i64.wrap ((i : Int) + (k : Int)) = (i : Int) + (k : Int) := IntWalk.i64_in _ (by omega)
                    have e3 : IntKind.i64.wrap ((j : Int) + (l : Int)) = (j : Int) + (l : Int) := IntWalk.i64_in _ (by omega)
                    have e1 : IntKind.i64.wrap (c2P n (atT xss) (atT yss) i j k l (i + k) (j + l) % m + atT xss i j * atT yss k l % m) = c2P n (atT xss) (atT yss) i j k l (i + k) (j + l) % m + atT xss i j * atT yss k l % m := IntWalk.i64_in _ (by omega)
                    have e2 : (c2P n (atT xss) (atT yss) i j k l (i + k) (j + l) % m + atT xss i j * atT yss k l % m).tmod m = (c2P n (atT xss) (atT yss) i j k l (i + k) (j + l) % m + atT xss i j * atT yss k l % m) % m := Int.tmod_eq_emod_of_nonneg (by omega)
                    go_still_tail 32, (by kernel_rfl)
                    still_call (stillC (mul_c _ _ _ _ (by omega) hm' (by omega) (by omega) (by omega) (by omega)))
                    repeat still_step
                    refine wpStill_nil ?_
                    change wpList _ _ _ _ _ wr.drew
                    have hg0 := gr_put (gr_drewN (World.grownBy.refl wr (some gr)) 1) (j + l) (.int .i64 ((c2P n (atT xss) (atT yss) i j k l (i + k) (j + l) % m + atT xss i j * atT yss k l % m) % m))
                    have hOn := hS.out _ _ (by rw [List.length_set, tmTr_len]) hg0 ((hN.out.drewN 1).put (j + l) _)
                    have hCn := hC.grown hg0 hgr3.1 hgr3.2.1
                    rw [← Int.add_emod, tmT_set (by omega)] at hOn
                    rw [← Int.add_emod] at hCn
                    go_wp2
                    exact ⟨⟨l + 1, by omega, by go_num, hOn, hCn⟩, by simp [intOf]; omega⟩
                  · obtain rfl : l = n - i - j - k := by omega
                    rw [tmT_row (by omega)] at hO
                    go_wp2
                    exact ⟨⟨k + 1, by omega, by go_num, hO, hC⟩, by simp [intOf]; omega⟩
              · obtain rfl : k = n - i - j := by omega
                rw [tmT_place (.inl (by omega))] at hO
                have k2 : ¬ (i : Int) + (j : Int) + ((n - i - j : Nat) : Int) ≤ (n : Int) - 1 := by omega
                go_wp2
                exact ⟨⟨j + 1, by omega, by go_num, hO, hC⟩, by simp [intOf]; omega⟩
          · rw [tmT_place (.inr (by simpa using hx0))] at hO
            go_wp2
            exact ⟨⟨j + 1, by omega, by go_num, hO, hC⟩, by simp [intOf]; omega⟩
        · obtain rfl : j = n - i := by omega
          rw [tmT_line rfl] at hO
          go_wp2
          exact ⟨⟨i + 1, by omega, by go_num, hO, hC⟩, by simp [intOf]; omega⟩
    · obtain rfl : i = n := by omega
      rw [tmT_all] at hO
      obtain ⟨⟨z0, z1⟩, zf⟩ := O2.chg hC hbo
      obtain ⟨⟨r0, r1⟩, rf⟩ := R2.chg hC (.inl hlB)
      have Br := hC.below B2 (by omega) B2s
      go_wp2
      refine bodyPost_ret (v := .agg #[.int .i64 m, .slice (some ⟨g, 0, none⟩) i cz]) (by simp [results, Try.results113, go_sem, r0, r1]) rfl ⟨_, rfl, ?_, ?_⟩
      · exact ((hO.r.ow.low hlB _).low hlB _).mono (by omega)
      · (repeat (first | exact Below.refl _ _ | (refine Below.setCell ?_ (by first | (simp; done) | (simp; omega) | omega) _) | (refine Below.alloc ?_ (by first | (simp; done) | (simp; omega) | omega) _) | (refine below_drewN ?_ _) | (refine Below.drew ?_) | (refine Below.trans ?_ (Below.mono Br (by first | (simp; done) | (simp; omega) | omega)))))

end Go.Proofs.Ytdnkadlondediaa

/- Planes: a number as a plane; the powers of a series. -/
set_option linter.unusedSimpArgs false
set_option linter.unusedVariables false
namespace Go.Proofs.Ytdnkadlondediaa
open Go.RowKit

def numbT (m a : Int) (n : Nat) : List (List Int) := tri n (fun i j => if i = 0 ∧ j = 0 then a % m else 0)
theorem numbT_len (m a : Int) (n : Nat) : (numbT m a n).length = n := tri_len _ _
theorem numbT_ok {m : Int} (hm : 0 < m) (a : Int) (n : Nat) : PlaT m n (numbT m a n) := tri_ok fun i j _ => by
  split
  · exact mod_lt' hm
  · omega
theorem numbT_0 (m : Int) (n : Nat) : numbT m 0 n = zeroT n := tri_ext fun i j _ => by split <;> simp
theorem zeroT_get {n i : Nat} (h : i < n) : (zeroT n)[i]? = some (mk (n - i) (fun _ => 0)) := tri_get h
theorem zeroT_set {n : Nat} (h : 0 < n) (m a : Int) : (zeroT n).set 0 ((mk (n - 0) (fun _ => 0)).set 0 (a % m)) = numbT m a n := tri_set (f := fun _ _ => 0) (by omega)

set_option maxHeartbeats 2000000 in
set_option maxRecDepth 100000 in
theorem number_c (m a : Int) (o : Option Addr) (n c : Nat) (w : World) (h1 : 1 ≤ n) (hn : n ≤ 1000) (hm : 2 ≤ m) (hm' : m ≤ 1000000000000) (ha : -9000000000000000000 ≤ a) (ha' : a ≤ 9000000000000000000) :
    Calls Try.prog 111 #[.agg #[.int .i64 m, .slice o n c], .int .i64 a] w fun e w' => PVEnd w w' m (numbT m a n) e := by
  go_enter Try.func111, Try.ntmps111
  go_wp2_with fail
  (have X0 := ((RB2.mk1 w  (.int .i64 m) (.slice o n c) 32).1).below (w' := ((w.alloc (.cells #[.int .i64 m, .slice o n c] 32)).alloc (.cells #[.int .i64 0, .slice none 0 0] 32))) (by (repeat (first | exact Below.refl _ _ | (refine Below.setCell ?_ (by first | (simp; done) | (simp; omega) | omega) _) | (refine Below.alloc ?_ (by first | (simp; done) | (simp; omega) | omega) _) | (refine below_drewN ?_ _) | (refine Below.drew ?_)))) (Nat.le_refl _); have R0 := ((RB2.mk2 w (.cells #[.int .i64 m, .slice o n c] 32) (.int .i64 0) (.slice none 0 0) 32)).below (w' := ((w.alloc (.cells #[.int .i64 m, .slice o n c] 32)).alloc (.cells #[.int .i64 0, .slice none 0 0] 32))) (by (repeat (first | exact Below.refl _ _ | (refine Below.setCell ?_ (by first | (simp; done) | (simp; omega) | omega) _) | (refine Below.alloc ?_ (by first | (simp; done) | (simp; omega) | omega) _) | (refine below_drewN ?_ _) | (refine Below.drew ?_)))) (Nat.le_refl _); have B0 : Below w.heap.size w ((w.alloc (.cells #[.int .i64 m, .slice o n c] 32)).alloc (.cells #[.int .i64 0, .slice none 0 0] 32)) := (by (repeat (first | exact Below.refl _ _ | (refine Below.setCell ?_ (by first | (simp; done) | (simp; omega) | omega) _) | (refine Below.alloc ?_ (by first | (simp; done) | (simp; omega) | omega) _) | (refine below_drewN ?_ _) | (refine Below.drew ?_)))); generalize (w.alloc (.cells #[.int .i64 m, .slice o n c] 32)).alloc (.cells #[.int .i64 0, .slice none 0 0] 32) = w0 at X0 R0 B0  ⊢)
  have hzl : w.heap.size + 1 < w0.heap.size := R0.1.lt
  go_cut [5] (fun sb u => ∃ (wz : World) (b : Nat) (oz : Option Addr) (cz : Nat), wz = u ∧ sb = .pointer (some ⟨b, 0, none⟩) ∧ w0.heap.size ≤ b ∧ RB2 u b (.int .i64 m) (.slice oz n cz) ∧ (∃ lo hi, OwSR lo hi u (.slice oz n cz) (zeroT n) ∧ w0.heap.size ≤ lo ∧ (b < lo ∨ hi ≤ b) ∧ hi ≤ u.heap.size) ∧ True ∧ Below w0.heap.size w0 u)
  case first =>
    have hd0 : Below w0.heap.size w0 w0.drew := (Below.refl _ _).drew
    have hsd0 := hd0.size
    have hlb_X0 := X0.lt
    obtain ⟨q0_X0_0, q0_X0_1⟩ := X0.below (Below.refl w0.heap.size w0) (Nat.le_refl _)
    have hne0_X0 : w0.heap.size ≠ w.heap.size := by omega
    go_region_held3 (fun w' => w'.cell? ⟨w.heap.size, 0, none⟩ = some (.int .i64 m) ∧ w'.cell? ⟨w.heap.size, 1, none⟩ = some (.slice o n c)) (go_keep)
      (first
        | (go_at_call 71; refine (degreeP_c m o n c _ (by unfold maxLen; omega)).mono ?_; rintro e wd1 ⟨rfl, hbd1⟩; have hd1 : Below w0.heap.size w0 wd1 := (by (repeat (first | exact Below.refl _ _ | (refine Below.setCell ?_ (by first | (simp; done) | (simp; omega) | omega) _) | (refine Below.alloc ?_ (by first | (simp; done) | (simp; omega) | omega) _) | (refine below_drewN ?_ _) | (refine Below.drew ?_) | (refine Below.trans ?_ (Below.mono hbd1 (by first | (simp; done) | (simp; omega) | omega)))))); have hsd1 := hd1.size; have hsz1_ := hbd1.size; (try simp at hsz1_); obtain ⟨q1_X0_0, q1_X0_1⟩ := X0.below hd1 (Nat.le_refl _); have hne1_X0 : wd1.heap.size ≠ w.heap.size := (by omega); (try (have RZ := RZ.below hbd1 (Nat.le_refl _))); (try (have RZ := (show RB2 (w0.alloc (.cells #[.int .i64 0, .slice none 0 0] 32)).drew w0.heap.size (.int .i64 0) (.slice none 0 0) from RB2.mk1 w0 (.int .i64 0) (.slice none 0 0) _).below hbd1 (Nat.le_refl _))); (try (obtain ⟨⟨z1_0, z1_1⟩, zf1⟩ := id RZ)))
        | (go_at_call 117; refine (emptyPlane_c m ((n : Int) - 1) n _ rfl hn).mono ?_; rintro e wd2 ⟨vz2, rfl, hod2, hbd2⟩; obtain ⟨oz, cz, rfl⟩ := hod2.shapeN (n := n) (zeroT_len n); have hd2 : Below w0.heap.size w0 wd2 := (by (repeat (first | exact Below.refl _ _ | (refine Below.setCell ?_ (by first | (simp; done) | (simp; omega) | omega) _) | (refine Below.alloc ?_ (by first | (simp; done) | (simp; omega) | omega) _) | (refine below_drewN ?_ _) | (refine Below.drew ?_) | (refine Below.trans ?_ (Below.mono hbd1 (by first | (simp; done) | (simp; omega) | omega))) | (refine Below.trans ?_ (Below.mono hbd2 (by first | (simp; done) | (simp; omega) | omega)))))); have hsd2 := hd2.size; have hsz2_ := hbd2.size; (try simp at hsz2_); obtain ⟨q2_X0_0, q2_X0_1⟩ := X0.below hd2 (Nat.le_refl _); have hne2_X0 : wd2.heap.size ≠ w.heap.size := (by omega); (try (have RZ := RZ.below hbd2 (Nat.le_refl _))); (try (have RZ := (show RB2 (wd1.alloc (.cells #[.int .i64 0, .slice none 0 0] 32)) wd1.heap.size (.int .i64 0) (.slice none 0 0) from RB2.mk1 wd1 (.int .i64 0) (.slice none 0 0) _).below hbd2 (Nat.le_refl _))); (try (obtain ⟨⟨z2_0, z2_1⟩, zf2⟩ := id RZ))))
    all_goals
      go_wp2_with fail
      go_meet
      refine ⟨_, _, oz, cz, rfl, rfl, ?_, ?_, ?_, ?_, ?_⟩
      · first | omega | (simp; done) | (simp; omega)
      · first | exact RB2.mk1 _ _ _ _ | exact RB2.put RZ _ _
      · first | exact ⟨_, _, hod2.ra _, (by first | (simp; done) | (simp; omega) | omega), .inr (Nat.le_refl _), (by first | (simp; done) | (simp; omega) | omega)⟩ | exact ⟨_, _, hod2.rp2 (by first | (simp; done) | (simp; omega) | omega) _ _, (by first | (simp; done) | (simp; omega) | omega), .inl (by first | (simp; done) | (simp; omega) | omega), (by first | (simp; done) | (simp; omega) | omega)⟩
      · trivial
      · (repeat (first | exact Below.refl _ _ | (refine Below.setCell ?_ (by first | (simp; done) | (simp; omega) | omega) _) | (refine Below.alloc ?_ (by first | (simp; done) | (simp; omega) | omega) _) | (refine below_drewN ?_ _) | (refine Below.drew ?_) | (refine Below.trans ?_ (Below.mono hbd1 (by first | (simp; done) | (simp; omega) | omega))) | (refine Below.trans ?_ (Below.mono hbd2 (by first | (simp; done) | (simp; omega) | omega)))))
  case rest =>
  obtain ⟨w1, b, oz, cz, rfl, rfl, hbW, O, how, hneb, hb⟩ := hcut
  (have X1 := X0.below hb (Nat.le_refl _); have R1 := R0.below hb (Nat.le_refl _); have B1 := B0.trans (hb.mono B0.size))
  obtain ⟨lo, hi, how, hlo, hbo, hhi⟩ := how
  obtain ⟨us, how⟩ := how.named
  obtain ⟨g, rfl, hgl, hgl'⟩ := how.row h1
  obtain ⟨o1, c1, hu1, cx1, how1, hbl1, hset1⟩ := how.at (zeroT_get (show 0 < n by omega))
  rw [mk_len] at cx1 how1 hbl1 hset1 hu1
  obtain ⟨gr, rfl, hgr1, hgr2⟩ := how1.row (by omega)
  have hgr3 := hbl1 gr rfl
  have hc0 := how1.cell (k := 0) (mk_get (show 0 < n - 0 by omega))
  have hf0 := how1.fz 0
  have Hn := Lib.hid how1
  have HS := Lib.hid hset1
  clear how1 hset1 hbl1 hu1
  have B1s := B1.size
  have hlB : w.heap.size + 1 < lo := by omega
  obtain ⟨x0, x1⟩ := id X1
  obtain ⟨⟨z0, z1⟩, zf⟩ := id O
  have i1 : (0 : Int) < ((n - 0 : Nat) : Int) := by omega
  have i2 : (0 : Int) < (n : Int) := by omega
  have i3 : 0 < n := by omega
  go_wp2_with fail
  go_still_tail 9, (by kernel_rfl)
  still_call (stillC (mod_c _ _ _ (by omega) (by omega) (by omega) (by omega)))
  repeat still_step
  refine wpStill_nil ?_
  change wpList _ _ _ _ _ w1.drew
  have hg0 := gr_put (World.grownBy.refl w1 (some gr)) 0 (.int .i64 (a % m))
  have hO := HS.out _ _ (by rw [List.length_set, mk_len]) hg0 (Hn.out.put 0 (a % m))
  rw [zeroT_set h1] at hO
  have hC := (Chg.refl lo hi w1).grown hg0 hgr3.1 hgr3.2.1
  obtain ⟨⟨p0, p1⟩, pf⟩ := O.chg hC hbo
  obtain ⟨⟨r0, r1⟩, rf⟩ := R1.chg hC (.inl hlB)
  have Br := hC.below B1 (by omega) B1s
  clear cx1 x0 x1 z0 z1 zf
  go_wp2
  refine bodyPost_ret (v := .agg #[.int .i64 m, .slice (some ⟨g, 0, none⟩) n cz]) (by simp [results, Try.results111, go_sem, r0, r1]) rfl ⟨_, rfl, ?_, ?_⟩
  · exact ((hO.r.ow.low hlB _).low hlB _).mono (by omega)
  · (repeat (first | exact Below.refl _ _ | (refine Below.setCell ?_ (by first | (simp; done) | (simp; omega) | omega) _) | (refine Below.alloc ?_ (by first | (simp; done) | (simp; omega) | omega) _) | (refine below_drewN ?_ _) | (refine Below.drew ?_) | (refine Below.trans ?_ (Below.mono B1 (by first | (simp; done) | (simp; omega) | omega)))))

end Go.Proofs.Ytdnkadlondediaa

/- Planes: the reference's product. -/
set_option linter.unusedSimpArgs false
set_option linter.unusedVariables false
namespace Go.Proofs.Ytdnkadlondediaa
open Go.RowKit

set_option maxHeartbeats 4000000 in
set_option maxRecDepth 100000 in
theorem l03Times_c (m : Int) (n : Nat) (v u : Value) (xss yss : List (List Int)) (w : World) (hv : RdT w v xss) (hu : RdT w u yss) (h1 : 1 ≤ n) (hn : n ≤ 1000) (hm : 2 ≤ m) (hm' : m ≤ 3000000000)
    (hx : PlaT m n xss) (hy : PlaT m n yss) :
    Calls Try.prog 109 #[.int .i64 m, v, u] w fun e w' => ∃ v', e = .returned v' ∧ OwS w' w.heap.size v' (timesT m n xss yss) ∧ Below w.heap.size w w' := by
  obtain ⟨o, c, rfl, hmx, -⟩ := id hv
  obtain ⟨o', c', rfl, hmy, -⟩ := id hu
  rw [hx.1] at hmx ⊢
  rw [hy.1] at hmy ⊢
  unfold maxLen at hmx hmy
  have hv' : RdT w (.slice o n c) xss := by rw [hx.1] at hv; exact hv
  have hu' : RdT w (.slice o' n c') yss := by rw [hy.1] at hu; exact hu
  clear hv hu
  have HX := Lib.hid hx
  have HY := Lib.hid hy
  have hxl := hx.1
  have hyl := hy.1
  clear hx hy
  obtain ⟨bx, fx, rfl, -⟩ := hv'.rows (by omega)
  obtain ⟨by', fy, rfl, -⟩ := hu'.rows (by omega)
  clear hxl hyl
  have m0 : (m == 0) = false := by simp; omega
  have m1 : ¬ m = 0 := by omega
  go_enter Try.func109, Try.ntmps109
  go_wp2_with (go_at_call 108; refine (l03Zero_c ((n : Int) - 1) n _ rfl hn).mono ?_; rintro e w2 ⟨vz, rfl, how, B2⟩; obtain ⟨oz, cz, rfl⟩ := how.shapeN (n := n) (zeroT_len n))
  have how := how.toR
  obtain ⟨hi, hhi⟩ : ∃ hi, w2.heap.size = hi := ⟨_, rfl⟩
  rw [hhi] at how
  obtain ⟨us, how⟩ := how.named
  obtain ⟨g, rfl, hgl, hgl'⟩ := how.row h1
  rw [tmT_0 m n xss yss] at how
  have B2s := B2.size
  go_loopw [9] (fun s wr => ∃ i : Nat, i ≤ n ∧ s = .int .i64 i ∧ OwSU us w.heap.size hi wr (.slice (some ⟨g, 0, none⟩) n cz) (tmT m n xss yss i 0 0 0) ∧ Chg w.heap.size hi w2 wr) (fun i _ => n - (intOf i).toNat)
  case atStart => exact ⟨0, Nat.zero_le _, rfl, how, Chg.refl _ _ _⟩
  case round =>
    obtain ⟨i, hi', rfl, hO, hC⟩ := hrel
    by_cases hlt : i < n
    · obtain ⟨r1, hr1, hl1, hj1⟩ := HX.out.row hlt
      obtain ⟨p1, q1, cx0, rx0⟩ := hv'.row hr1
      rw [hl1] at cx0 rx0
      obtain ⟨b1, f1, rfl, -⟩ := rx0.cells (by omega)
      have i0 : (0 : Int) ≤ (i : Int) := by omega
      have i1 : (i : Int) < (n : Int) := by omega
      have HJ := Lib.hid hj1
      clear hr1 hl1 hj1
      go_wp2_with fail
      go_loopw [10] (fun s wr => ∃ j : Nat, j ≤ n - i ∧ s = .int .i64 j ∧ OwSU us w.heap.size hi wr (.slice (some ⟨g, 0, none⟩) n cz) (tmT m n xss yss i j 0 0) ∧ Chg w.heap.size hi w2 wr) (fun i' _ => n - i - (intOf i').toNat)
      case atStart => exact ⟨0, Nat.zero_le _, rfl, hO, hC⟩
      case round =>
        obtain ⟨j, hj, rfl, hO, hC⟩ := hrel
        have Br := hC.below B2 (by omega) B2s
        by_cases hjl : j < n - i
        · have ex := (rx0.below Br (Nat.le_refl _)).cell0 (HJ.out j hjl)
          have cx := keep_cell Br (Nat.le_refl _) cx0
          obtain ⟨-, -, -, -, hxa, hxb⟩ := HX.out.at (i := i) (j := j) (by omega)
          have j0 : (0 : Int) ≤ (j : Int) := by omega
          have j1 : (j : Int) < ((n - i : Nat) : Int) := by omega
          have j2 : (i : Int) + (j : Int) < (n : Int) := by omega
          cases hx0 : (atT xss i j == 0)
          · go_wp2_with fail
            clear ex cx
            go_loopw [11] (fun s wr => ∃ k : Nat, k ≤ n - i - j ∧ s = .int .i64 k ∧ OwSU us w.heap.size hi wr (.slice (some ⟨g, 0, none⟩) n cz) (tmT m n xss yss i j k 0) ∧ Chg w.heap.size hi w2 wr) (fun i' _ => n - i - j - (intOf i').toNat)
            case atStart => exact ⟨0, Nat.zero_le _, rfl, hO, hC⟩
            case round =>
              obtain ⟨k, hk, rfl, hO, hC⟩ := hrel
              have Br := hC.below B2 (by omega) B2s
              by_cases hkl : k < n - i - j
              · obtain ⟨r2, hr2, hl2, hj2⟩ := HY.out.row (show k < n by omega)
                obtain ⟨p2, q2, cy0, ry0⟩ := hu'.row hr2
                rw [hl2] at cy0 ry0
                obtain ⟨b2, f2, rfl, -⟩ := ry0.cells (by omega)
                have cy := keep_cell Br (Nat.le_refl _) cy0
                have HJ2 := Lib.hid hj2
                clear hr2 hl2 hj2 cy0
                obtain ⟨o3, c3, hu3, cx3, how3, hbl3, -⟩ := hO.at (tmT_row' (show i + k < n by omega))
                rw [tmTr_len] at hu3 cx3 how3 hbl3
                obtain ⟨gr, rfl, hgr1, hgr2⟩ := how3.row (by omega)
                have hgr3 := hbl3 gr rfl
                have HU3 := Lib.hid hu3
                clear how3 hbl3 hu3
                have k0 : (0 : Int) ≤ (k : Int) := by omega
                have k1 : (k : Int) < (n : Int) := by omega
                have k2 : (i : Int) + (j : Int) + (k : Int) < (n : Int) := by omega
                have k3 : (0 : Int) ≤ (i : Int) + (k : Int) := by omega
                have k4 : (i : Int) + (k : Int) < (n : Int) := by omega
                have k5 : ((i : Int) + (k : Int)).toNat = i + k := by omega
                go_wp2_with fail
                have e0 : IntKind.i64.wrap ((i : Int) + (k : Int)) = (i : Int) + (k : Int) := IntWalk.i64_in _ (by omega)
                go_quiet (fail)
                clear cy cx3 e0
                go_wp2_with fail
                go_loopw [14] (fun s wr => ∃ l : Nat, l ≤ n - i - j - k ∧ s = .int .i64 l ∧ OwSU us w.heap.size hi wr (.slice (some ⟨g, 0, none⟩) n cz) (tmT m n xss yss i j k l) ∧ Chg w.heap.size hi w2 wr) (fun i' _ => n - i - j - k - (intOf i').toNat)
                case atStart => exact ⟨0, Nat.zero_le _, rfl, hO, hC.drewN _⟩
                case round =>
                  obtain ⟨l, hl, rfl, hO, hC⟩ := hrel
                  have Br := hC.below B2 (by omega) B2s
                  by_cases hll : l < n - i - j - k
                  · have ey := (ry0.below Br (Nat.le_refl _)).cell0 (HJ2.out l (by omega))
                    have ex := (rx0.below Br (Nat.le_refl _)).cell0 (HJ.out j hjl)
                    have cx := keep_cell Br (Nat.le_refl _) cx0
                    obtain ⟨-, -, -, -, hya, hyb⟩ := HY.out.at (i := k) (j := l) (by omega)
                    obtain ⟨o4, c4, hu4, -, how3, -, hset3⟩ := hO.at (tmT_row' (show i + k < n by omega))
                    rw [tmTr_len] at hu4 how3 hset3
                    obtain ⟨rfl, rfl⟩ : some ⟨gr, 0, none⟩ = o4 ∧ c3 = c4 := by rw [HU3.out] at hu4; simpa using hu4
                    have hc0 := how3.cell (k := j + l) (tmTr_get (show i + k + (j + l) < n by omega))
                    have hf0 := how3.fz (j + l)
                    have hN := Lib.hid how3
                    have hS := Lib.hid hset3
                    clear how3 hset3 hu4
                    have l0 : (0 : Int) ≤ (l : Int) := by omega
                    have l1 : (l : Int) < ((n - k : Nat) : Int) := by omega
                    have l2 : (i : Int) + (j : Int) + (k : Int) + (l : Int) < (n : Int) := by omega
                    have l5 : (0 : Int) ≤ (j : Int) + (l : Int) := by omega
                    have l6 : (j : Int) + (l : Int) < ((n - (i + k) : Nat) : Int) := by omega
                    have l7 : ((j : Int) + (l : Int)).toNat = j + l := by omega
                    obtain ⟨hM0, hM1⟩ := prod_fits hxa hya hxb hyb hm'
                    have hCm := mod_lt' (a := c2P n (atT xss) (atT yss) i j k l (i + k) (j + l)) (show 0 < m by omega)
                    have hMod := mod_lt' (a := c2P n (atT xss) (atT yss) i j k l (i + k) (j + l) % m + atT xss i j * atT yss k l) (show 0 < m by omega)
                    go_wp2_with fail
                    have e0 : IntKind.i64.wrap ((j : Int) + (l : Int)) = (j : Int) + (l : Int) := IntWalk.i64_in _ (by omega)
                    have e3 : IntKind.i64.wrap (atT xss i j * atT yss k l) = atT xss i j * atT yss k l := IntWalk.i64_in _ (by omega)
                    have e1 : IntKind.i64.wrap (c2P n (atT xss) (atT yss) i j k l (i + k) (j + l) % m + atT xss i j * atT yss k l) = c2P n (atT xss) (atT yss) i j k l (i + k) (j + l) % m + atT xss i j * atT yss k l := IntWalk.i64_in _ (by omega)
                    have e2 : (c2P n (atT xss) (atT yss) i j k l (i + k) (j + l) % m + atT xss i j * atT yss k l).tmod m = (c2P n (atT xss) (atT yss) i j k l (i + k) (j + l) % m + atT xss i j * atT yss k l) % m := Int.tmod_eq_emod_of_nonneg (by omega)
                    go_still_tail 26, (by kernel_rfl)
                    change wpList _ _ _ _ _ wr.drew
                    have HE := Lib.hid (show (c2P n (atT xss) (atT yss) i j k l (i + k) (j + l) % m + atT xss i j * atT yss k l) % m = (c2P n (atT xss) (atT yss) i j k l (i + k) (j + l) + atT xss i j * atT yss k l) % m by rw [Int.add_emod, Int.emod_emod_of_dvd _ (Int.dvd_refl m), ← Int.add_emod])
                    have hg0 := gr_put (gr_drewN (World.grownBy.refl wr (some gr)) 1) (j + l) (.int .i64 ((c2P n (atT xss) (atT yss) i j k l (i + k) (j + l) % m + atT xss i j * atT yss k l) % m))
                    have hOn := hS.out _ _ (by rw [List.length_set, tmTr_len]) hg0 ((hN.out.drewN 1).put (j + l) _)
                    have hCn := hC.grown hg0 hgr3.1 hgr3.2.1
                    rw [HE.out, tmT_set (by omega)] at hOn
                    rw [HE.out] at hCn
                    go_wp2
                    exact ⟨⟨l + 1, by omega, by go_num, hOn, hCn⟩, by simp [intOf]; omega⟩
                  · obtain rfl : l = n - i - j - k := by omega
                    rw [tmT_row (by omega)] at hO
                    have l2 : ¬ (i : Int) + (j : Int) + (k : Int) + ((n - i - j - k : Nat) : Int) < (n : Int) := by omega
                    go_wp2
                    exact ⟨⟨k + 1, by omega, by go_num, hO, hC⟩, by simp [intOf]; omega⟩
              · obtain rfl : k = n - i - j := by omega
                rw [tmT_place (.inl (by omega))] at hO
                have k2 : ¬ (i : Int) + (j : Int) + ((n - i - j : Nat) : Int) < (n : Int) := by omega
                go_wp2
                exact ⟨⟨j + 1, by omega, by go_num, hO, hC⟩, by simp [intOf]; omega⟩
          · rw [tmT_place (.inr (by simpa using hx0))] at hO
            go_wp2
            exact ⟨⟨j + 1, by omega, by go_num, hO, hC⟩, by simp [intOf]; omega⟩
        · obtain rfl : j = n - i := by omega
          rw [tmT_line rfl] at hO
          have j2 : ¬ (i : Int) + ((n - i : Nat) : Int) < (n : Int) := by omega
          go_wp2
          exact ⟨⟨i + 1, by omega, by go_num, hO, hC⟩, by simp [intOf]; omega⟩
    · obtain rfl : i = n := by omega
      rw [tmT_all] at hO
      have Br := hC.below B2 (by omega) B2s
      go_wp2
      go_ret
      exact ⟨_, rfl, hO.r.ow, Br⟩

end Go.Proofs.Ytdnkadlondediaa

/- Products of planes: the program and the reference. -/
set_option linter.unusedSimpArgs false
set_option linter.unusedVariables false
namespace Go.Proofs.Ytdnkadlondediaa
open Go.RowKit

end Go.Proofs.Ytdnkadlondediaa

/- Planes and series that have to be alike: the program's answer and the reference's. -/
set_option linter.unusedSimpArgs false
set_option linter.unusedVariables false
namespace Go.Proofs.Ytdnkadlondediaa
open Go.RowKit

def RdM (w : World) (v : Value) (l : List (Int × List Int)) : Prop :=
  ∃ o c, v = .slice o l.length c ∧ (l.length ≤ maxLen ∧ l.length ≤ c ∧ (o = none → c = 0)) ∧
    (∀ (k : Nat) (p : Int × List Int), l[k]? = some p → ∃ b off u, o = some ⟨b, off, none⟩ ∧ w.cell? ⟨b, off + k * 2, none⟩ = some (.int .i64 p.1) ∧ w.cell? ⟨b, off + k * 2 + 1, none⟩ = some u ∧ RdI w u p.2)
theorem RdM.below {B : Nat} {w w' : World} {v : Value} {l : List (Int × List Int)} (h : RdM w v l) (hb : Below B w w') (hB : w.heap.size ≤ B) : RdM w' v l := by
  obtain ⟨o, c, rfl, hm, hc⟩ := h
  refine ⟨o, c, rfl, hm, fun k row hx => ?_⟩
  obtain ⟨b, off, u, ho, h0, h1, hr⟩ := hc k row hx
  exact ⟨b, off, u, ho, keep_cell hb hB h0, keep_cell hb hB h1, hr.below hb hB⟩
theorem RdM.len {w : World} {o : Option Addr} {n c : Nat} {l : List (Int × List Int)} (h : RdM w (.slice o n c) l) : n = l.length ∧ l.length ≤ maxLen ∧ l.length ≤ c := by
  obtain ⟨o', c', heq, hm, hc⟩ := h
  obtain ⟨rfl, rfl, rfl⟩ : o = o' ∧ n = l.length ∧ c = c' := by simpa using heq
  exact ⟨rfl, hm.1, hm.2.1⟩
theorem RdM.base {w : World} {o : Option Addr} {n c : Nat} {l : List (Int × List Int)} (h : RdM w (.slice o n c) l) (hx : 1 ≤ l.length) : ∃ b off, o = some ⟨b, off, none⟩ := by
  obtain ⟨o', c', heq, hm, hc⟩ := h
  obtain ⟨rfl, rfl, rfl⟩ : o = o' ∧ n = l.length ∧ c = c' := by simpa using heq
  obtain ⟨b, off, u, ho, -⟩ := hc 0 l[0] (by simp)
  exact ⟨b, off, ho⟩
theorem RdM.at {w : World} {b off n c : Nat} {l : List (Int × List Int)} (h : RdM w (.slice (some ⟨b, off, none⟩) n c) l) {k : Nat} (hk : k < l.length) :
    ∃ o c, w.cell? ⟨b, off + k * 2, none⟩ = some (.int .i64 l[k].1) ∧ w.cell? ⟨b, off + k * 2 + 1, none⟩ = some (.slice o l[k].2.length c) ∧ RdI w (.slice o l[k].2.length c) l[k].2 := by
  obtain ⟨o', c', heq, hm, hc⟩ := h
  obtain ⟨rfl, -, -⟩ : some ⟨b, off, none⟩ = o' ∧ n = l.length ∧ c = c' := by simpa using heq
  obtain ⟨b', off', u, ho, h0, h1, h2⟩ := hc k l[k] (by simp [hk])
  obtain ⟨rfl, rfl⟩ : b = b' ∧ off = off' := by simpa using ho
  obtain ⟨o, c, he, -, -⟩ := id h2
  rw [he] at h1 h2
  exact ⟨o, c, h0, h1, h2⟩
theorem RdM.lit1 (w : World) (m : Int) (u : Value) (xs : List Int) (hu : RdI w u xs) : RdM (w.alloc (.cells #[.int .i64 m, u] 34)) (.slice (some ⟨w.heap.size, 0, none⟩) 1 1) [(m, xs)] := by
  have hb : Below w.heap.size w (w.alloc (.cells #[.int .i64 m, u] 34)) := (Below.refl _ _).alloc (Nat.le_refl _) _
  refine ⟨_, _, rfl, ⟨by simp [maxLen], by simp, fun h => by cases h⟩, fun k p hk => ?_⟩
  have : k = 0 := by have := (List.getElem?_eq_some_iff.1 hk).1; simp at this; omega
  subst this
  simp at hk
  subst hk
  exact ⟨_, 0, u, rfl, by simp, by simp, hu.below hb (Nat.le_refl _)⟩
end Go.Proofs.Ytdnkadlondediaa

/- A series of a plane: the program's function and the reference's. -/
set_option linter.unusedSimpArgs false
set_option linter.unusedVariables false
namespace Go.Proofs.Ytdnkadlondediaa
open Go.RowKit

theorem addcT_plus {m : Int} (hm : 0 < m) {n : Nat} {t : List (List Int)} (ht : PlaT m n t) (c : Int) :
    tri n (fun i j => (atT t i j + atT (numbT m c n) i j) % m) = addcT m c n t := tri_ext fun i j h => by
  unfold numbT
  rw [atT_tri h]
  by_cases e : i = 0 ∧ j = 0
  · rw [if_pos e, if_pos e]
    obtain ⟨rfl, rfl⟩ := e
    rw [Int.add_emod, Int.emod_emod_of_dvd _ (Int.dvd_refl m), ← Int.add_emod]
  · rw [if_neg e, if_neg e, Int.add_zero]
    obtain ⟨-, -, -, -, h1, h2⟩ := ht.at h
    exact Int.emod_eq_of_lt h1 h2
theorem addcT_set {m : Int} {n : Nat} {t : List (List Int)} (hn : 0 < n) (ht : PlaT m n t) (c : Int) {row : List Int} (hr : t[0]? = some row) : t.set 0 (row.set 0 ((atT t 0 0 + c) % m)) = addcT m c n t := by
  have e : t = tri n (atT t) := tri_eq ht.1 (fun i hi => by rw [(ht.2 i hi).1, ht.1])
  have e2 : row = mk (n - 0) (atT t 0) := by
    rw [e, tri_get hn] at hr
    exact (Option.some.inj hr).symm
  have key : (tri n (atT t)).set 0 ((mk (n - 0) (atT t 0)).set 0 ((atT t 0 0 + c) % m)) = addcT m c n t := by
    rw [tri_set (f := atT t) (by omega)]; rfl
  rw [← e] at key
  rw [e2]
  exact key

set_option maxHeartbeats 4000000 in
set_option maxRecDepth 100000 in
theorem l03After_c (m : Int) (n : Nat) (v u : Value) (xs : List Int) (yss : List (List Int)) (w : World) (hv : RdI w v xs) (hu : RdT w u yss) (h1 : 1 ≤ n) (hn : n ≤ 1000) (hm : 2 ≤ m) (hm' : m ≤ 3000000000)
    (hxl : xs.length ≤ 1048576) (hx : ∀ x ∈ xs, 0 ≤ x ∧ x < m) (hy : PlaT m n yss) :
    Calls Try.prog 51 #[.int .i64 m, v, u] w fun e w' => ∃ v', e = .returned v' ∧ OwS w' w.heap.size v' (hornT m n yss xs) ∧ Below w.heap.size w w' := by
  obtain ⟨o, c, rfl, hmx, -⟩ := id hv
  obtain ⟨o', c', rfl, hmy, -⟩ := id hu
  have HY := Lib.hid hy
  have hu' : RdT w (.slice o' n c') yss := by rw [hy.1] at hu; exact hu
  rw [hy.1] at hmy ⊢
  unfold maxLen at hmx hmy
  clear hu hy
  have m0 : (m == 0) = false := by simp; omega
  have m1 : ¬ m = 0 := by omega
  go_enter Try.func51, Try.ntmps51
  go_wp2_with (go_at_call 108; refine (l03Zero_c ((n : Int) - 1) n _ rfl hn).mono ?_; rintro e w2 ⟨vz, rfl, how, B2⟩; obtain ⟨oz, cz, rfl⟩ := how.shapeN (n := n) (zeroT_len n))
  go_loopw [7, 8, 9] (fun s i _ wr => ∃ (j : Nat) (ov : Option Addr) (cv : Nat), j ≤ xs.length ∧ i = .int .i64 ((j : Int) - 1) ∧ s = .slice ov n cv ∧ OwS wr w.heap.size (.slice ov n cv) (hornT m n yss (xs.drop j)) ∧ Below w.heap.size w wr) (fun _ i _ _ => ((intOf i) + 1).toNat)
  case atStart => exact ⟨xs.length, oz, cz, Nat.le_refl _, rfl, rfl, by rw [List.drop_length]; exact how, B2⟩
  case round =>
    obtain ⟨j, ov, cv, hj, rfl, rfl, hO, hB⟩ := hrel
    have hBs := hB.size
    by_cases hlt : 0 < j
    · obtain ⟨k, rfl⟩ : ∃ k, j = k + 1 := ⟨j - 1, by omega⟩
      have ek : (((k + 1 : Nat) : Int)) - 1 = (k : Int) := by omega
      rw [ek]
      clear ek
      have HS := Lib.hid (hornT_drop (m := m) (n := n) (t := yss) (some_at0 (show k < xs.length by omega)))
      have HO := Lib.hid (hornT_ok (m := m) (show 0 < m by omega) n yss (xs.drop (k + 1)))
      generalize hornT m n yss (xs.drop (k + 1)) = l at hO HS HO
      have hkx := at0_range (by omega) hx k
      obtain ⟨bx, fx, rfl, -⟩ := hv.cells (by omega)
      have i0 : (0 : Int) ≤ (k : Int) := by omega
      have i1 : (k : Int) < (xs.length : Int) := by omega
      have i2 : (0 : Int) < (n : Int) := by omega
      have i3 : 0 < n := by omega
      have HT := Lib.hid (timesT_ok (m := m) (show 0 < m by omega) n l yss)
      have HTl := Lib.hid (timesT_len m n l yss)
      generalize hTT : timesT m n l yss = T at HS HT HTl
      have hTT2 := Lib.hid hTT
      clear hTT
      go_wp2_with (go_at_call 109; refine (l03Times_c m n _ _ l yss wr hO.rd (hu'.below hB (Nat.le_refl _)) h1 hn hm hm' HO.out HY.out).mono ?_; rw [hTT2.out]; rintro e w3 ⟨v3, rfl, how3, hb3⟩; obtain ⟨o3, c3, rfl⟩ := how3.shapeN (n := n) HTl.out; obtain ⟨us, how3⟩ := how3.toR.named; obtain ⟨g, rfl, hgl, hgl'⟩ := how3.row (by omega); obtain ⟨r0, hr0, hrl, hrj⟩ := HT.out.row i3; obtain ⟨o4, c4, hu4, cx4, how4, hbl4, hset4⟩ := how3.at hr0; rw [hrl] at hu4 cx4 how4 hbl4 hset4; have HR0 := Lib.hid hr0; have HRJ := Lib.hid hrj; have HRL := Lib.hid hrl; clear hr0 hrj hrl; obtain ⟨gr, rfl, hgr1, hgr2⟩ := how4.row (by omega))
      have HX0 := hbl4 gr rfl
      have hc0 := how4.cell (k := 0) (HRJ.out 0 (by omega))
      have hf0 := how4.fz 0
      obtain ⟨-, -, -, -, ht0, ht1⟩ := HT.out.at (i := 0) (j := 0) (by omega)
      have B3 := hB.trans (hb3.mono hBs)
      have cx := (hv.below B3 (Nat.le_refl _)).cell0 (some_at0 (show k < xs.length by omega))
      have i4 : (0 : Int) < ((n - 0 : Nat) : Int) := by omega
      have hMod := mod_lt' (a := atT T 0 0 + at0 xs k) (show 0 < m by omega)
      have hN := Lib.hid how4
      have hS4 := Lib.hid hset4
      clear how4 hset4 hu4
      go_wp2_with fail
      have e1 : IntKind.i64.wrap (atT T 0 0 + at0 xs k) = atT T 0 0 + at0 xs k := IntWalk.i64_in _ (by omega)
      have e2 : (atT T 0 0 + at0 xs k).tmod m = (atT T 0 0 + at0 xs k) % m := Int.tmod_eq_emod_of_nonneg (by omega)
      go_still_tail 12, (by kernel_rfl)
      change wpList _ _ _ _ _ w3.drew
      have hg0 := gr_put (World.grownBy.refl w3 (some gr)) 0 (.int .i64 ((atT T 0 0 + at0 xs k) % m))
      have hOn := hS4.out _ _ (by rw [List.length_set, HRL.out]) hg0 (hN.out.put 0 ((atT T 0 0 + at0 xs k) % m))
      rw [addcT_set i3 HT.out _ HR0.out, ← HS.out] at hOn
      have Bn := below_put B3 (g := gr) (k := 0) (by omega) (.int .i64 ((atT T 0 0 + at0 xs k) % m))
      go_wp2
      exact ⟨⟨k, _, _, by omega, by go_num, rfl, hOn.r.ow.mono hBs, Bn.drew⟩, by simp [intOf]⟩
    · obtain rfl : j = 0 := by omega
      rw [List.drop_zero] at hO
      go_wp2
      go_ret
      exact ⟨_, rfl, hO, hB⟩

end Go.Proofs.Ytdnkadlondediaa
