/- Lemmas of Join. -/
import Derived.Test.YtcjinlfgeljmkaaWSOp
import Derived.Deep.AppendLies
set_option linter.unusedSimpArgs false
set_option linter.unusedVariables false
namespace Go.Proofs.Ytcjinlfgeljmkaa
open Go.RowKit

theorem stL {ops : Array Oper} {o : Oper} {a : Act} {Q : Exit → Act → World → Prop} {K : Act → World → Prop} {E : Prop} (w : World) (hg : o.guard = none) (s x : Operand) (hop : o.op = .call { callee := .builtin .append, args := #[s, x], argTypes := #[24, 24] })
    (B : Nat) (v : Value) (xs : List Int) (hs : a.eval s = v) (hown : OwI w B v xs) (ad : Addr) (m c : Nat) (ys : List Int) (hx : a.eval x = .slice (some ad) m c) (hr : RdI w (.slice (some ad) m c) ys)
    (hn : xs.length + ys.length < 1099511627776) (hy : 0 < ys.length) (hB : B ≤ w.heap.size)
    (hK : ∀ g c1 w', OwI w' B (.slice (some ⟨g, 0, none⟩) (xs ++ ys).length c1) (xs ++ ys) → w.grownBy w' v.ownBlock → (v.ownBlock = some g ∨ g = w.heap.size) → Below B w w' → K (a.put o.dst (.slice (some ⟨g, 0, none⟩) (xs ++ ys).length c1)) w') :
    if Region.wanted o (yielded ops a.tmps) = true then Oper.wp Try.prog o a w K Q else E := by
  obtain ⟨i0, hi, hz0, hz1, hz2⟩ := info_parts info_i
  obtain ⟨o', c', heq, hm, hc⟩ := hr
  obtain ⟨rfl, rfl, rfl⟩ : some ad = o' ∧ m = ys.length ∧ c = c' := by simpa using heq
  refine step_append_lies w hg s x 24 hop B 2 i0 (.int .i64 0) 1 8 Try.underlying24 hi hz0 hz1 hz2 rfl (by decide) v xs.length (xs.map (Value.int .i64)) hs hown ad ys.length c (ys.map (Value.int .i64)) hx (by simp) ?_ (ints_oneCell .i64 ys) hy (by unfold maxLen; omega) (by omega) hB w.heap.size rfl ?_
  · intro j u hu
    simp only [List.getElem?_map, Option.map_eq_some_iff] at hu
    obtain ⟨y, hy, rfl⟩ := hu
    obtain ⟨b, off, hb, hcell⟩ := hc j y hy
    obtain rfl := Option.some.inj hb
    rw [Addr.add_lit]; exact hcell
  · intro g cap w' hown' hgrow hl _
    have how : OwI w' B (.slice (some ⟨g, 0, none⟩) (xs ++ ys).length cap) (xs ++ ys) := by unfold OwI; rw [List.length_append, List.map_append]; exact hown'
    rw [← List.length_append]
    exact hK g cap w' how hgrow hl (Below.grown (Below.refl B w) hgrow hB (fun k hk => (OwI.lt hown k hk).1))

def jL (f : Int → Int → Int) (p : Nat) (W : Int) (xs ys : List Int) (k : Nat) : List Int := (List.range k).map (fun j => f (gh p (at0 xs) j % W) (gh p (at0 ys) j % W) % W)
theorem jL_len (f : Int → Int → Int) (p : Nat) (W : Int) (xs ys : List Int) (k : Nat) : (jL f p W xs ys k).length = k := by simp [jL]
theorem jL_succ (f : Int → Int → Int) (p : Nat) (W : Int) (xs ys : List Int) (k : Nat) : jL f p W xs ys (k + 1) = jL f p W xs ys k ++ [f (gh p (at0 xs) k % W) (gh p (at0 ys) k % W) % W] := by simp [jL, List.range_succ]
theorem jL_range {f : Int → Int → Int} {p : Nat} {W : Int} (hW : 0 < W) {xs ys : List Int} {k : Nat} : ∀ g ∈ jL f p W xs ys k, 0 ≤ g ∧ g < W := by
  intro g hg
  simp only [jL, List.mem_map] at hg
  obtain ⟨j, _, rfl⟩ := hg
  exact mod_lt' hW

set_option maxHeartbeats 400000 in
theorem opAdd_c (a b : Int) (w : World) (h1 : -9000000000000000000 ≤ a + b) (h2 : a + b ≤ 9000000000000000000) :
    Calls Try.prog 179 #[.int .i64 a, .int .i64 b] w fun e w' => e = .returned (.int .i64 (a + b)) ∧ w = w' := by
  go_enter Try.func179, Try.ntmps179
  go_wp2
  go_ret
  exact ⟨rfl, rfl⟩
theorem opAdd_callable : Callable 179 := fun args w => Try.call179 args w

set_option maxHeartbeats 400000 in
theorem opMultiply_c (a b W : Int) (b1 : Nat) (w : World) (hc : w.cell? ⟨b1, 0, none⟩ = some (.int .i64 W)) (hW : 1 ≤ W) (hW' : W ≤ 3000000000) (h1 : 0 ≤ a) (h2 : a < W) (h3 : 0 ≤ b) (h4 : b < W) :
    Calls Try.prog 172 #[.int .i64 a, .int .i64 b, .pointer (some ⟨b1, 0, none⟩)] w fun e w' => e = .returned (.int .i64 (a * b % W)) ∧ w = w' := by
  go_enter Try.func172, Try.ntmps172
  go_wp2_with (go_at_call 173; refine (mul_c _ _ _ _ hW hW' h1 h3 h2 h4).mono ?_; rintro e w' ⟨rfl, rfl⟩)
  go_ret
  exact ⟨rfl, rfl⟩
theorem opMultiply_callable : Callable 172 := fun args w => Try.call172 args w

set_option maxHeartbeats 400000 in
theorem opPower_c (a b W : Int) (k : Nat) (b1 b2 : Nat) (w : World) (hc : w.cell? ⟨b1, 0, none⟩ = some (.int .i64 W)) (hk : w.cell? ⟨b2, 0, none⟩ = some (.int .i64 k)) (hW : 1 ≤ W) (hW' : W ≤ 3000000000) (h1 : 0 ≤ a) (h2 : a < W) (hk' : k ≤ 1000000000000) :
    Calls Try.prog 196 #[.int .i64 a, .int .i64 b, .pointer (some ⟨b1, 0, none⟩), .pointer (some ⟨b2, 0, none⟩)] w fun e w' => e = .returned (.int .i64 (a ^ k % W)) ∧ w = w' := by
  go_enter Try.func196, Try.ntmps196
  go_wp2_with (go_at_call 197; refine (power_c _ _ _ k _ rfl (by omega) (by omega) (by omega) (by omega) (by omega)).mono ?_; rintro e w' ⟨rfl, rfl⟩)
  go_ret
  exact ⟨rfl, rfl⟩
theorem opPower_callable : Callable 196 := fun args w => Try.call196 args w

set_option maxHeartbeats 2000000 in
set_option maxRecDepth 100000 in
theorem joined0_c (G : Nat)  (f : Int → Int → Int) (p : Nat) (m : Int) (v u : Value) (xs ys : List Int) (w : World) (hp : P4 p) (hv : RdI w v xs) (hu : RdI w u ys) (h4 : xs.length ≤ 4) (hl : ys.length = xs.length) (hm : 2 ≤ m) (hm' : m ≤ 10000)
    (hx : ∀ x ∈ xs, 0 ≤ x ∧ x ≤ 9000000000000000000) (hy : ∀ x ∈ ys, 0 ≤ x ∧ x ≤ 9000000000000000000) (hG : Callable G)
    (hf : ∀ a b, 0 ≤ a → a < m * (p : Int) ^ 4 → 0 ≤ b → b < m * (p : Int) ^ 4 → -9000000000000000000 ≤ f a b ∧ f a b ≤ 9000000000000000000)
    (hF : ∀ a b w1, 0 ≤ a → a < m * (p : Int) ^ 4 → 0 ≤ b → b < m * (p : Int) ^ 4 → Below w.heap.size w w1 → Calls Try.prog G #[.int .i64 a, .int .i64 b] w1 fun e w' => e = .returned (.int .i64 (f a b)) ∧ w1 = w') :
    Calls Try.prog 171 #[.agg #[.int .i64 p, .int .i64 m, v], .agg #[.int .i64 p, .int .i64 m, u], .func (.func G) #[] #[]] w fun e w' => VEnd w w' p m ((fromL (m * (p : Int) ^ 4) p (jL f p (m * (p : Int) ^ 4) xs ys xs.length)).map (· % m)) e := by
  have hpb := hp.bounds
  have hW := wide_bounds hp hm hm' (show 4 ≤ 4 by omega)
  obtain ⟨W, hWe⟩ : ∃ W, m * (p : Int) ^ 4 = W := ⟨_, rfl⟩
  rw [hWe] at hW hf hF ⊢
  have HF := Lib.hid hF
  have Hf := Lib.hid hf
  clear hf hF
  unfold Callable at hG
  have HW := Lib.hid hWe
  have hW0 : 2 ≤ W := by omega
  have hW1 : W ≤ 30000000 := by omega
  clear hWe hW
  obtain ⟨o, c, rfl, hmx, -⟩ := id hv
  obtain ⟨o', c', rfl, hmy, -⟩ := id hu
  have HL := Lib.hid hl
  clear hl
  go_enter Try.func171, Try.ntmps171
  go_wp2_with fail
  (have X0 := ((RB3.mk1 w  (.int .i64 p) (.int .i64 m) (.slice o xs.length c) 59).1).below (w' := (((w.alloc (.cells #[.int .i64 p, .int .i64 m, .slice o xs.length c] 59)).alloc (.cells #[.int .i64 p, .int .i64 m, .slice o' ys.length c'] 59)).alloc (.cells #[.int .i64 0, .int .i64 0, .slice none 0 0] 59))) (by (repeat (first | exact Below.refl _ _ | (refine Below.setCell ?_ (by first | (simp; done) | (simp; omega) | omega) _) | (refine Below.alloc ?_ (by first | (simp; done) | (simp; omega) | omega) _) | (refine below_drewN ?_ _) | (refine Below.drew ?_)))) (Nat.le_refl _); have Y0 := ((RB3.mk2 w (.cells #[.int .i64 p, .int .i64 m, .slice o xs.length c] 59) (.int .i64 p) (.int .i64 m) (.slice o' ys.length c') 59).1).below (w' := (((w.alloc (.cells #[.int .i64 p, .int .i64 m, .slice o xs.length c] 59)).alloc (.cells #[.int .i64 p, .int .i64 m, .slice o' ys.length c'] 59)).alloc (.cells #[.int .i64 0, .int .i64 0, .slice none 0 0] 59))) (by (repeat (first | exact Below.refl _ _ | (refine Below.setCell ?_ (by first | (simp; done) | (simp; omega) | omega) _) | (refine Below.alloc ?_ (by first | (simp; done) | (simp; omega) | omega) _) | (refine below_drewN ?_ _) | (refine Below.drew ?_)))) (Nat.le_refl _); have R0 := ((RB3.mk3 w (.cells #[.int .i64 p, .int .i64 m, .slice o xs.length c] 59) (.cells #[.int .i64 p, .int .i64 m, .slice o' ys.length c'] 59) (.int .i64 0) (.int .i64 0) (.slice none 0 0) 59)).below (w' := (((w.alloc (.cells #[.int .i64 p, .int .i64 m, .slice o xs.length c] 59)).alloc (.cells #[.int .i64 p, .int .i64 m, .slice o' ys.length c'] 59)).alloc (.cells #[.int .i64 0, .int .i64 0, .slice none 0 0] 59))) (by (repeat (first | exact Below.refl _ _ | (refine Below.setCell ?_ (by first | (simp; done) | (simp; omega) | omega) _) | (refine Below.alloc ?_ (by first | (simp; done) | (simp; omega) | omega) _) | (refine below_drewN ?_ _) | (refine Below.drew ?_)))) (Nat.le_refl _); have B0 : Below w.heap.size w (((w.alloc (.cells #[.int .i64 p, .int .i64 m, .slice o xs.length c] 59)).alloc (.cells #[.int .i64 p, .int .i64 m, .slice o' ys.length c'] 59)).alloc (.cells #[.int .i64 0, .int .i64 0, .slice none 0 0] 59)) := (by (repeat (first | exact Below.refl _ _ | (refine Below.setCell ?_ (by first | (simp; done) | (simp; omega) | omega) _) | (refine Below.alloc ?_ (by first | (simp; done) | (simp; omega) | omega) _) | (refine below_drewN ?_ _) | (refine Below.drew ?_)))); have hv0 := hv.below (w' := (((w.alloc (.cells #[.int .i64 p, .int .i64 m, .slice o xs.length c] 59)).alloc (.cells #[.int .i64 p, .int .i64 m, .slice o' ys.length c'] 59)).alloc (.cells #[.int .i64 0, .int .i64 0, .slice none 0 0] 59))) (by (repeat (first | exact Below.refl _ _ | (refine Below.setCell ?_ (by first | (simp; done) | (simp; omega) | omega) _) | (refine Below.alloc ?_ (by first | (simp; done) | (simp; omega) | omega) _) | (refine below_drewN ?_ _) | (refine Below.drew ?_)))) (Nat.le_refl _); have hu0 := hu.below (w' := (((w.alloc (.cells #[.int .i64 p, .int .i64 m, .slice o xs.length c] 59)).alloc (.cells #[.int .i64 p, .int .i64 m, .slice o' ys.length c'] 59)).alloc (.cells #[.int .i64 0, .int .i64 0, .slice none 0 0] 59))) (by (repeat (first | exact Below.refl _ _ | (refine Below.setCell ?_ (by first | (simp; done) | (simp; omega) | omega) _) | (refine Below.alloc ?_ (by first | (simp; done) | (simp; omega) | omega) _) | (refine below_drewN ?_ _) | (refine Below.drew ?_)))) (Nat.le_refl _); generalize ((w.alloc (.cells #[.int .i64 p, .int .i64 m, .slice o xs.length c] 59)).alloc (.cells #[.int .i64 p, .int .i64 m, .slice o' ys.length c'] 59)).alloc (.cells #[.int .i64 0, .int .i64 0, .slice none 0 0] 59) = w0 at X0 Y0 R0 B0 hv0 hu0 ⊢)
  obtain ⟨k0, k1, k2⟩ := id X0
  go_wp2_with fail
  refine (wide_c p m o xs.length c _ hp hm hm').mono ?_
  rw [HW.out]
  rintro e w1 ⟨rfl, hb⟩
  (have X1 := X0.below hb (Nat.le_refl _); have Y1 := Y0.below hb (Nat.le_refl _); have R1 := R0.below hb (Nat.le_refl _); have hv1 := hv0.below hb (Nat.le_refl _); have hu1 := hu0.below hb (Nat.le_refl _); have B1 := B0.trans (hb.mono B0.size))
  clear k0 k1 k2
  go_wp2_with fail
  have O2 := (OwI.lit w1 [] (by decide)).mono (show w.heap.size + 3 ≤ w1.heap.size from R1.1.lt)
  have hbw : Below w1.heap.size w1 (w1.alloc (.cells #[] 2)) := (by (repeat (first | exact Below.refl _ _ | (refine Below.setCell ?_ (by first | (simp; done) | (simp; omega) | omega) _) | (refine Below.alloc ?_ (by first | (simp; done) | (simp; omega) | omega) _) | (refine below_drewN ?_ _) | (refine Below.drew ?_))))
  (have X2 := X1.below hbw (Nat.le_refl _); have Y2 := Y1.below hbw (Nat.le_refl _); have R2 := R1.below hbw (Nat.le_refl _); have hv2 := hv1.below hbw (Nat.le_refl _); have hu2 := hu1.below hbw (Nat.le_refl _); have B2 := B1.trans (hbw.mono B1.size))
  simp at O2
  generalize w1.alloc (.cells #[] 2) = w2 at O2 X2 Y2 R2 B2 hv2 hu2 ⊢
  clear hbw
  go_cut [9, 10] (fun s9 s10 wx => ∃ w3, w3 = wx ∧ OwI wx w2.heap.size s9 (ghL p W xs xs.length) ∧ OwI wx w2.heap.size s10 (ghL p W ys ys.length) ∧ Box3 wx w.heap.size (.int .i64 p) (.int .i64 m) (.slice o xs.length c) ∧ RB3 wx (w.heap.size + 2) (.int .i64 0) (.int .i64 0) (.slice none 0 0) ∧ Below w2.heap.size w2 wx)
  case first =>
    obtain ⟨k0, k1, k2⟩ := id X2
    obtain ⟨y0, y1, y2⟩ := id Y2
    have hbd : Below w2.heap.size w2 w2.drew := (Below.refl _ _).drew
    have hvd := hv2.below hbd (Nat.le_refl _)
    have hud := hu2.below hbd (Nat.le_refl _)
    have Xd := X2.below hbd (Nat.le_refl _)
    have Yd := Y2.below hbd (Nat.le_refl _)
    have Rd := R2.below hbd (Nat.le_refl _)
    go_region_held3 (fun w' => w'.cell? ⟨w.heap.size, 0, none⟩ = some (.int .i64 p) ∧ w'.cell? ⟨w.heap.size, 1, none⟩ = some (.int .i64 m) ∧ w'.cell? ⟨w.heap.size, 2, none⟩ = some (.slice o xs.length c) ∧ w'.cell? ⟨w.heap.size + 1, 0, none⟩ = some (.int .i64 p) ∧ w'.cell? ⟨w.heap.size + 1, 1, none⟩ = some (.int .i64 m) ∧ w'.cell? ⟨w.heap.size + 1, 2, none⟩ = some (.slice o' ys.length c')) (first | exact ⟨Xz.1, Xz.2.1, Xz.2.2, Yz⟩ | exact ⟨Xa.1, Xa.2.1, Xa.2.2, Ya⟩ | exact ⟨Xb.1, Xb.2.1, Xb.2.2, Yb⟩ | go_keep)
      (first
        | (go_at_call_of 184 (Value.agg #[.int .i64 p, .int .i64 m, .slice o xs.length c]); refine (ghosts_c p W m _ xs w2.drew hp hvd h4 (by omega) (by omega) hx).mono ?_; rintro e wa ⟨va, rfl, hoa, hba⟩; have Oa := hoa.mono (Nat.le_refl w2.heap.size); have Xa := Xd.below hba (Nat.le_refl _); have Ya := Yd.below hba (Nat.le_refl _); have Ra := Rd.below hba (Nat.le_refl _); have hua := hud.below hba (Nat.le_refl _); have Ba := hbd.trans (hba.mono hbd.size))
        | (go_at_call_of 184 (Value.agg #[.int .i64 p, .int .i64 m, .slice o' ys.length c']); refine (ghosts_c p W m _ ys wa hp hua (by rw [HL.out]; exact h4) (by omega) (by omega) hy).mono ?_; rintro e wz ⟨vz, rfl, hoz, hbz⟩; have Oz2 := hoz.mono Ba.size; have Oz1 := Oa.below hbz; have Xz := Xa.below hbz (Nat.le_refl _); have Yz := Ya.below hbz (Nat.le_refl _); have Rz := Ra.below hbz (Nat.le_refl _); have Bz := Ba.trans (hbz.mono Ba.size))
        | (go_at_call_of 184 (Value.agg #[.int .i64 p, .int .i64 m, .slice o' ys.length c']); refine (ghosts_c p W m _ ys w2.drew hp hud (by rw [HL.out]; exact h4) (by omega) (by omega) hy).mono ?_; rintro e wb ⟨vb, rfl, hob, hbb⟩; have Ob := hob.mono (Nat.le_refl w2.heap.size); have Xb := Xd.below hbb (Nat.le_refl _); have Yb := Yd.below hbb (Nat.le_refl _); have Rb := Rd.below hbb (Nat.le_refl _); have hvb := hvd.below hbb (Nat.le_refl _); have Bb := hbd.trans (hbb.mono hbd.size))
        | (go_at_call_of 184 (Value.agg #[.int .i64 p, .int .i64 m, .slice o xs.length c]); refine (ghosts_c p W m _ xs wb hp hvb h4 (by omega) (by omega) hx).mono ?_; rintro e wz ⟨vz, rfl, hoz, hbz⟩; have Oz1 := hoz.mono Bb.size; have Oz2 := Ob.below hbz; have Xz := Xb.below hbz (Nat.le_refl _); have Yz := Yb.below hbz (Nat.le_refl _); have Rz := Rb.below hbz (Nat.le_refl _); have Bz := Bb.trans (hbz.mono Bb.size)))
    all_goals (go_wp2_with fail; go_meet; exact ⟨_, rfl, Oz1, Oz2, Xz, Rz, Bz⟩)
  case rest =>
  obtain ⟨w3, rfl, hA, hB', X3, R3, B23⟩ := hcut
  have O3 := O2.below B23
  have B3 := B2.trans (B23.mono B2.size)
  have hs23 := B23.size
  have hq3 : ∀ k, (Value.slice (some ⟨w1.heap.size, 0, none⟩) 0 0).ownBlock = some k → k < w2.heap.size ∨ w3.heap.size ≤ k := fun k hk => .inl (O2.lt k hk).2
  obtain ⟨o9, c9, rfl⟩ := hA.shapeN (n := xs.length) (ghL_len _ _ _ _)
  obtain ⟨o10, c10, rfl⟩ := hB'.shapeN (n := ys.length) (ghL_len _ _ _ _)
  have hA3 := hA.lt
  have hB3 := hB'.lt
  go_wp2_with fail
  go_loopw [8, 11, 23] (fun s _ k wr => ∃ i : Nat, i ≤ xs.length ∧ k = .int .i64 i ∧ OwI wr (w.heap.size + 3) s (jL f p W xs ys i) ∧ (∀ k, s.ownBlock = some k → k < w2.heap.size ∨ w3.heap.size ≤ k) ∧ Box3 wr w.heap.size (.int .i64 p) (.int .i64 m) (.slice o xs.length c) ∧ RB3 wr (w.heap.size + 2) (.int .i64 0) (.int .i64 0) (.slice none 0 0) ∧ OwI wr w2.heap.size (.slice o9 xs.length c9) (ghL p W xs xs.length) ∧ OwI wr w2.heap.size (.slice o10 ys.length c10) (ghL p W ys ys.length) ∧ Below w.heap.size w wr ∧ w3.heap.size ≤ wr.heap.size) (fun _ _ k _ => xs.length - (intOf k).toNat)
  case atStart => exact ⟨0, Nat.zero_le _, rfl, O3, hq3, X3, R3, hA, hB', B3, Nat.le_refl _⟩
  case round =>
    clear hA hB'
    obtain ⟨i, hi, rfl, hO, hq, hX, hR, hA, hB, hBw, hs3⟩ := hrel
    obtain ⟨ov, cv, rfl⟩ := hO.shapeN (n := i) (jL_len _ _ _ _ _ _)
    obtain ⟨wo, rfl⟩ : ∃ wo : World, wo = wr := ⟨_, rfl⟩
    by_cases hlt : i < xs.length
    · have hil : i < ys.length := by rw [HL.out]; exact hlt
      have hlt' : (i : Int) < (xs.length : Int) := by omega
      have hil' : (i : Int) < (ys.length : Int) := by omega
      have hG1 := mod_lt' (a := gh p (at0 xs) i) (show 0 < W by omega)
      have hG2 := mod_lt' (a := gh p (at0 ys) i) (show 0 < W by omega)
      have hs := Lib.hid (jL_succ f p W xs ys i)
      have hsl : (jL f p W xs ys i).length = i := jL_len _ _ _ _ _ _
      obtain ⟨g9, cp9, hv9, -, -, -, hc9, -⟩ := OwI.opn hA (by rw [ghL_len]; omega)
      rw [ghL_len] at hv9
      obtain ⟨rfl, rfl⟩ : o9 = some ⟨g9, 0, none⟩ ∧ c9 = cp9 := by simp at hv9; exact hv9
      have hx9 := hc9 i (gh p (at0 xs) i % W) (by simp [ghL, hlt])
      clear hc9 hv9
      obtain ⟨g10, cp10, hv10, -, -, -, hc10, -⟩ := OwI.opn hB (by rw [ghL_len]; omega)
      rw [ghL_len] at hv10
      obtain ⟨rfl, rfl⟩ : o10 = some ⟨g10, 0, none⟩ ∧ c10 = cp10 := by simp at hv10; exact hv10
      have hx10 := hc10 i (gh p (at0 ys) i % W) (by simp [ghL, hil])
      clear hc10 hv10
      have hA3' := hA3 g9 rfl
      have hB3' := hB3 g10 rfl
      generalize gh p (at0 xs) i % W = G1 at *
      generalize gh p (at0 ys) i % W = G2 at *
      have HS := Lib.hid hs.out
      clear hs
      have hO3 := hO.below (w' := wo.drew) ((by (repeat (first | exact Below.refl _ _ | (refine Below.setCell ?_ (by first | (simp; done) | (simp; omega) | omega) _) | (refine Below.alloc ?_ (by first | (simp; done) | (simp; omega) | omega) _) | (refine below_drewN ?_ _) | (refine Below.drew ?_)))))
      have hA4 := hA.below (w' := wo.drew) ((by (repeat (first | exact Below.refl _ _ | (refine Below.setCell ?_ (by first | (simp; done) | (simp; omega) | omega) _) | (refine Below.alloc ?_ (by first | (simp; done) | (simp; omega) | omega) _) | (refine below_drewN ?_ _) | (refine Below.drew ?_)))))
      have hB4 := hB.below (w' := wo.drew) ((by (repeat (first | exact Below.refl _ _ | (refine Below.setCell ?_ (by first | (simp; done) | (simp; omega) | omega) _) | (refine Below.alloc ?_ (by first | (simp; done) | (simp; omega) | omega) _) | (refine below_drewN ?_ _) | (refine Below.drew ?_)))))
      have hz := hR.1.lt
      obtain ⟨hj1, hj2⟩ := Hf.out G1 G2 hG1.1 hG1.2 hG2.1 hG2.2
      go_wp2_with fail
      go_region_held3 (fun w' => w'.cell? ⟨g9, i, none⟩ = some (.int .i64 G1) ∧ w'.cell? ⟨g10, i, none⟩ = some (.int .i64 G2)) (first | exact HQ4 | go_keep)
        (first
          | (refine (HF.out G1 G2 _ hG1.1 hG1.2 hG2.1 hG2.2 hBw.drew).mono ?_; rintro e w' ⟨rfl, rfl⟩)
          | (go_at_call 199; (refine (mod_c (f G1 G2) W _ (by omega) (by omega) hj1 hj2).mono ?_; rintro e w' ⟨rfl, rfl⟩))
          | (refine stL _ rfl _ _ rfl (w.heap.size + 3) (.slice ov i cv) _ rfl (hO3.alloc _) ⟨wo.heap.size, 0, none⟩ 1 1 [f G1 G2 % W] rfl (OwI.lit wo.drew [f G1 G2 % W] (by simp [maxLen])).rd (by rw [hsl]; simp; omega) (by simp) (by simp; omega) ?_; intro g4 c4 w4 hO4 hgr hli hb4; have HQ4 : w4.cell? ⟨g9, i, none⟩ = some (.int .i64 G1) ∧ w4.cell? ⟨g10, i, none⟩ = some (.int .i64 G2) := ⟨by rw [hgr.cell_far ⟨g9, i, none⟩ (by simp; omega) (fun e => by have := hq g9 e.symm; omega)]; exact keep_cell (w := wo) ((by (repeat (first | exact Below.refl _ _ | (refine Below.setCell ?_ (by first | (simp; done) | (simp; omega) | omega) _) | (refine Below.alloc ?_ (by first | (simp; done) | (simp; omega) | omega) _) | (refine below_drewN ?_ _) | (refine Below.drew ?_))))) (Nat.le_refl _) hx9, by rw [hgr.cell_far ⟨g10, i, none⟩ (by simp; omega) (fun e => by have := hq g10 e.symm; omega)]; exact keep_cell (w := wo) ((by (repeat (first | exact Below.refl _ _ | (refine Below.setCell ?_ (by first | (simp; done) | (simp; omega) | omega) _) | (refine Below.alloc ?_ (by first | (simp; done) | (simp; omega) | omega) _) | (refine below_drewN ?_ _) | (refine Below.drew ?_))))) (Nat.le_refl _) hx10⟩))
      have hb5 : Below (w.heap.size + 3) wo w4 := Below.trans ((by (repeat (first | exact Below.refl _ _ | (refine Below.setCell ?_ (by first | (simp; done) | (simp; omega) | omega) _) | (refine Below.alloc ?_ (by first | (simp; done) | (simp; omega) | omega) _) | (refine below_drewN ?_ _) | (refine Below.drew ?_))))) hb4
      have hA5 := (hA4.alloc (.cells #[.int .i64 (f G1 G2 % W)] 2)).kept hgr (.inr (fun e => by have := hq g9 e.symm; omega))
      have hB5 := (hB4.alloc (.cells #[.int .i64 (f G1 G2 % W)] 2)).kept hgr (.inr (fun e => by have := hq g10 e.symm; omega))
      have hsz := hb5.size
      have hq5 : ∀ k, (Value.slice (some ⟨g4, 0, none⟩) (i + 1) c4).ownBlock = some k → k < w2.heap.size ∨ w3.heap.size ≤ k := by
        intro k hk
        obtain rfl : g4 = k := by simpa [Value.ownBlock] using hk
        rcases hli with hli | hli
        · exact hq _ hli
        · right; simp at hli; omega
      go_wp2
      have hl5 : (jL f p W xs ys i ++ [f G1 G2 % W]).length = i + 1 := by rw [List.length_append, hsl]; rfl
      rw [hl5] at hO4
      rw [← HS.out] at hO4
      exact ⟨⟨i + 1, by omega, by go_num, hO4, hq5, hX.belowB hb5 (by omega), hR.belowB hb5 (by omega), hA5, hB5, hBw.trans (hb5.mono (by omega)), by omega⟩, by simp [intOf]; omega⟩
    · obtain rfl : i = xs.length := by omega
      have hjl : Hid ((jL f p W xs ys xs.length).length = xs.length) := Lib.hid (jL_len _ _ _ _ _ _)
      have hjr := jL_range (f := f) (p := p) (W := W) (xs := xs) (ys := ys) (k := xs.length) (by omega)
      have hfl : Hid (((fromL W p (jL f p W xs ys xs.length)).map (· % m)).length = xs.length) := Lib.hid (by rw [List.length_map, fromL_len, jL_len])
      have hz := hR.1.lt
      have hBs := hBw.size
      obtain ⟨k0, k1, k2⟩ := id hX
      go_wp2_with fail
      refine (withGhosts_c p m W _ (jL f p W xs ys xs.length) o xs.length c _ hp hO.rd (by rw [hjl.out]; omega) hm hm' HW.out hjr).mono ?_
      rintro e w5 ⟨v5, rfl, how, hb5⟩
      obtain ⟨o5, c5, rfl⟩ := how.shapeN (n := xs.length) hfl.out
      have R5 := hR.below hb5 (Nat.le_refl _)
      have B5 := hBw.trans (hb5.mono hBw.size)
      obtain ⟨⟨r0, r1, r2⟩, rf⟩ := id R5
      go_wp2
      refine bodyPost_ret (v := .agg #[.int .i64 p, .int .i64 m, .slice o5 xs.length c5]) (by simp [results, Try.results171, go_sem, r0, r1, r2]) rfl ⟨_, rfl, ?_, ?_⟩
      · exact ((((how.low hz _).low hz _).low hz _)).mono hBs
      · (repeat (first | exact Below.refl _ _ | (refine Below.setCell ?_ (by first | (simp; done) | (simp; omega) | omega) _) | (refine Below.alloc ?_ (by first | (simp; done) | (simp; omega) | omega) _) | (refine below_drewN ?_ _) | (refine Below.drew ?_) | (refine Below.trans ?_ (Below.mono B5 (by first | (simp; done) | (simp; omega) | omega)))))
set_option maxHeartbeats 2000000 in
set_option maxRecDepth 100000 in
theorem joined1_c (G : Nat) (c0 : Value) (f : Int → Int → Int) (p : Nat) (m : Int) (v u : Value) (xs ys : List Int) (w : World) (hp : P4 p) (hv : RdI w v xs) (hu : RdI w u ys) (h4 : xs.length ≤ 4) (hl : ys.length = xs.length) (hm : 2 ≤ m) (hm' : m ≤ 10000)
    (hx : ∀ x ∈ xs, 0 ≤ x ∧ x ≤ 9000000000000000000) (hy : ∀ x ∈ ys, 0 ≤ x ∧ x ≤ 9000000000000000000) (hG : Callable G)
    (hf : ∀ a b, 0 ≤ a → a < m * (p : Int) ^ 4 → 0 ≤ b → b < m * (p : Int) ^ 4 → -9000000000000000000 ≤ f a b ∧ f a b ≤ 9000000000000000000)
    (hF : ∀ a b w1, 0 ≤ a → a < m * (p : Int) ^ 4 → 0 ≤ b → b < m * (p : Int) ^ 4 → Below w.heap.size w w1 → Calls Try.prog G #[.int .i64 a, .int .i64 b, c0] w1 fun e w' => e = .returned (.int .i64 (f a b)) ∧ w1 = w') :
    Calls Try.prog 171 #[.agg #[.int .i64 p, .int .i64 m, v], .agg #[.int .i64 p, .int .i64 m, u], .func (.func G) #[] #[c0]] w fun e w' => VEnd w w' p m ((fromL (m * (p : Int) ^ 4) p (jL f p (m * (p : Int) ^ 4) xs ys xs.length)).map (· % m)) e := by
  have hpb := hp.bounds
  have hW := wide_bounds hp hm hm' (show 4 ≤ 4 by omega)
  obtain ⟨W, hWe⟩ : ∃ W, m * (p : Int) ^ 4 = W := ⟨_, rfl⟩
  rw [hWe] at hW hf hF ⊢
  have HF := Lib.hid hF
  have Hf := Lib.hid hf
  clear hf hF
  unfold Callable at hG
  have HW := Lib.hid hWe
  have hW0 : 2 ≤ W := by omega
  have hW1 : W ≤ 30000000 := by omega
  clear hWe hW
  obtain ⟨o, c, rfl, hmx, -⟩ := id hv
  obtain ⟨o', c', rfl, hmy, -⟩ := id hu
  have HL := Lib.hid hl
  clear hl
  go_enter Try.func171, Try.ntmps171
  go_wp2_with fail
  (have X0 := ((RB3.mk1 w  (.int .i64 p) (.int .i64 m) (.slice o xs.length c) 59).1).below (w' := (((w.alloc (.cells #[.int .i64 p, .int .i64 m, .slice o xs.length c] 59)).alloc (.cells #[.int .i64 p, .int .i64 m, .slice o' ys.length c'] 59)).alloc (.cells #[.int .i64 0, .int .i64 0, .slice none 0 0] 59))) (by (repeat (first | exact Below.refl _ _ | (refine Below.setCell ?_ (by first | (simp; done) | (simp; omega) | omega) _) | (refine Below.alloc ?_ (by first | (simp; done) | (simp; omega) | omega) _) | (refine below_drewN ?_ _) | (refine Below.drew ?_)))) (Nat.le_refl _); have Y0 := ((RB3.mk2 w (.cells #[.int .i64 p, .int .i64 m, .slice o xs.length c] 59) (.int .i64 p) (.int .i64 m) (.slice o' ys.length c') 59).1).below (w' := (((w.alloc (.cells #[.int .i64 p, .int .i64 m, .slice o xs.length c] 59)).alloc (.cells #[.int .i64 p, .int .i64 m, .slice o' ys.length c'] 59)).alloc (.cells #[.int .i64 0, .int .i64 0, .slice none 0 0] 59))) (by (repeat (first | exact Below.refl _ _ | (refine Below.setCell ?_ (by first | (simp; done) | (simp; omega) | omega) _) | (refine Below.alloc ?_ (by first | (simp; done) | (simp; omega) | omega) _) | (refine below_drewN ?_ _) | (refine Below.drew ?_)))) (Nat.le_refl _); have R0 := ((RB3.mk3 w (.cells #[.int .i64 p, .int .i64 m, .slice o xs.length c] 59) (.cells #[.int .i64 p, .int .i64 m, .slice o' ys.length c'] 59) (.int .i64 0) (.int .i64 0) (.slice none 0 0) 59)).below (w' := (((w.alloc (.cells #[.int .i64 p, .int .i64 m, .slice o xs.length c] 59)).alloc (.cells #[.int .i64 p, .int .i64 m, .slice o' ys.length c'] 59)).alloc (.cells #[.int .i64 0, .int .i64 0, .slice none 0 0] 59))) (by (repeat (first | exact Below.refl _ _ | (refine Below.setCell ?_ (by first | (simp; done) | (simp; omega) | omega) _) | (refine Below.alloc ?_ (by first | (simp; done) | (simp; omega) | omega) _) | (refine below_drewN ?_ _) | (refine Below.drew ?_)))) (Nat.le_refl _); have B0 : Below w.heap.size w (((w.alloc (.cells #[.int .i64 p, .int .i64 m, .slice o xs.length c] 59)).alloc (.cells #[.int .i64 p, .int .i64 m, .slice o' ys.length c'] 59)).alloc (.cells #[.int .i64 0, .int .i64 0, .slice none 0 0] 59)) := (by (repeat (first | exact Below.refl _ _ | (refine Below.setCell ?_ (by first | (simp; done) | (simp; omega) | omega) _) | (refine Below.alloc ?_ (by first | (simp; done) | (simp; omega) | omega) _) | (refine below_drewN ?_ _) | (refine Below.drew ?_)))); have hv0 := hv.below (w' := (((w.alloc (.cells #[.int .i64 p, .int .i64 m, .slice o xs.length c] 59)).alloc (.cells #[.int .i64 p, .int .i64 m, .slice o' ys.length c'] 59)).alloc (.cells #[.int .i64 0, .int .i64 0, .slice none 0 0] 59))) (by (repeat (first | exact Below.refl _ _ | (refine Below.setCell ?_ (by first | (simp; done) | (simp; omega) | omega) _) | (refine Below.alloc ?_ (by first | (simp; done) | (simp; omega) | omega) _) | (refine below_drewN ?_ _) | (refine Below.drew ?_)))) (Nat.le_refl _); have hu0 := hu.below (w' := (((w.alloc (.cells #[.int .i64 p, .int .i64 m, .slice o xs.length c] 59)).alloc (.cells #[.int .i64 p, .int .i64 m, .slice o' ys.length c'] 59)).alloc (.cells #[.int .i64 0, .int .i64 0, .slice none 0 0] 59))) (by (repeat (first | exact Below.refl _ _ | (refine Below.setCell ?_ (by first | (simp; done) | (simp; omega) | omega) _) | (refine Below.alloc ?_ (by first | (simp; done) | (simp; omega) | omega) _) | (refine below_drewN ?_ _) | (refine Below.drew ?_)))) (Nat.le_refl _); generalize ((w.alloc (.cells #[.int .i64 p, .int .i64 m, .slice o xs.length c] 59)).alloc (.cells #[.int .i64 p, .int .i64 m, .slice o' ys.length c'] 59)).alloc (.cells #[.int .i64 0, .int .i64 0, .slice none 0 0] 59) = w0 at X0 Y0 R0 B0 hv0 hu0 ⊢)
  obtain ⟨k0, k1, k2⟩ := id X0
  go_wp2_with fail
  refine (wide_c p m o xs.length c _ hp hm hm').mono ?_
  rw [HW.out]
  rintro e w1 ⟨rfl, hb⟩
  (have X1 := X0.below hb (Nat.le_refl _); have Y1 := Y0.below hb (Nat.le_refl _); have R1 := R0.below hb (Nat.le_refl _); have hv1 := hv0.below hb (Nat.le_refl _); have hu1 := hu0.below hb (Nat.le_refl _); have B1 := B0.trans (hb.mono B0.size))
  clear k0 k1 k2
  go_wp2_with fail
  have O2 := (OwI.lit w1 [] (by decide)).mono (show w.heap.size + 3 ≤ w1.heap.size from R1.1.lt)
  have hbw : Below w1.heap.size w1 (w1.alloc (.cells #[] 2)) := (by (repeat (first | exact Below.refl _ _ | (refine Below.setCell ?_ (by first | (simp; done) | (simp; omega) | omega) _) | (refine Below.alloc ?_ (by first | (simp; done) | (simp; omega) | omega) _) | (refine below_drewN ?_ _) | (refine Below.drew ?_))))
  (have X2 := X1.below hbw (Nat.le_refl _); have Y2 := Y1.below hbw (Nat.le_refl _); have R2 := R1.below hbw (Nat.le_refl _); have hv2 := hv1.below hbw (Nat.le_refl _); have hu2 := hu1.below hbw (Nat.le_refl _); have B2 := B1.trans (hbw.mono B1.size))
  simp at O2
  generalize w1.alloc (.cells #[] 2) = w2 at O2 X2 Y2 R2 B2 hv2 hu2 ⊢
  clear hbw
  go_cut [9, 10] (fun s9 s10 wx => ∃ w3, w3 = wx ∧ OwI wx w2.heap.size s9 (ghL p W xs xs.length) ∧ OwI wx w2.heap.size s10 (ghL p W ys ys.length) ∧ Box3 wx w.heap.size (.int .i64 p) (.int .i64 m) (.slice o xs.length c) ∧ RB3 wx (w.heap.size + 2) (.int .i64 0) (.int .i64 0) (.slice none 0 0) ∧ Below w2.heap.size w2 wx)
  case first =>
    obtain ⟨k0, k1, k2⟩ := id X2
    obtain ⟨y0, y1, y2⟩ := id Y2
    have hbd : Below w2.heap.size w2 w2.drew := (Below.refl _ _).drew
    have hvd := hv2.below hbd (Nat.le_refl _)
    have hud := hu2.below hbd (Nat.le_refl _)
    have Xd := X2.below hbd (Nat.le_refl _)
    have Yd := Y2.below hbd (Nat.le_refl _)
    have Rd := R2.below hbd (Nat.le_refl _)
    go_region_held3 (fun w' => w'.cell? ⟨w.heap.size, 0, none⟩ = some (.int .i64 p) ∧ w'.cell? ⟨w.heap.size, 1, none⟩ = some (.int .i64 m) ∧ w'.cell? ⟨w.heap.size, 2, none⟩ = some (.slice o xs.length c) ∧ w'.cell? ⟨w.heap.size + 1, 0, none⟩ = some (.int .i64 p) ∧ w'.cell? ⟨w.heap.size + 1, 1, none⟩ = some (.int .i64 m) ∧ w'.cell? ⟨w.heap.size + 1, 2, none⟩ = some (.slice o' ys.length c')) (first | exact ⟨Xz.1, Xz.2.1, Xz.2.2, Yz⟩ | exact ⟨Xa.1, Xa.2.1, Xa.2.2, Ya⟩ | exact ⟨Xb.1, Xb.2.1, Xb.2.2, Yb⟩ | go_keep)
      (first
        | (go_at_call_of 184 (Value.agg #[.int .i64 p, .int .i64 m, .slice o xs.length c]); refine (ghosts_c p W m _ xs w2.drew hp hvd h4 (by omega) (by omega) hx).mono ?_; rintro e wa ⟨va, rfl, hoa, hba⟩; have Oa := hoa.mono (Nat.le_refl w2.heap.size); have Xa := Xd.below hba (Nat.le_refl _); have Ya := Yd.below hba (Nat.le_refl _); have Ra := Rd.below hba (Nat.le_refl _); have hua := hud.below hba (Nat.le_refl _); have Ba := hbd.trans (hba.mono hbd.size))
        | (go_at_call_of 184 (Value.agg #[.int .i64 p, .int .i64 m, .slice o' ys.length c']); refine (ghosts_c p W m _ ys wa hp hua (by rw [HL.out]; exact h4) (by omega) (by omega) hy).mono ?_; rintro e wz ⟨vz, rfl, hoz, hbz⟩; have Oz2 := hoz.mono Ba.size; have Oz1 := Oa.below hbz; have Xz := Xa.below hbz (Nat.le_refl _); have Yz := Ya.below hbz (Nat.le_refl _); have Rz := Ra.below hbz (Nat.le_refl _); have Bz := Ba.trans (hbz.mono Ba.size))
        | (go_at_call_of 184 (Value.agg #[.int .i64 p, .int .i64 m, .slice o' ys.length c']); refine (ghosts_c p W m _ ys w2.drew hp hud (by rw [HL.out]; exact h4) (by omega) (by omega) hy).mono ?_; rintro e wb ⟨vb, rfl, hob, hbb⟩; have Ob := hob.mono (Nat.le_refl w2.heap.size); have Xb := Xd.below hbb (Nat.le_refl _); have Yb := Yd.below hbb (Nat.le_refl _); have Rb := Rd.below hbb (Nat.le_refl _); have hvb := hvd.below hbb (Nat.le_refl _); have Bb := hbd.trans (hbb.mono hbd.size))
        | (go_at_call_of 184 (Value.agg #[.int .i64 p, .int .i64 m, .slice o xs.length c]); refine (ghosts_c p W m _ xs wb hp hvb h4 (by omega) (by omega) hx).mono ?_; rintro e wz ⟨vz, rfl, hoz, hbz⟩; have Oz1 := hoz.mono Bb.size; have Oz2 := Ob.below hbz; have Xz := Xb.below hbz (Nat.le_refl _); have Yz := Yb.below hbz (Nat.le_refl _); have Rz := Rb.below hbz (Nat.le_refl _); have Bz := Bb.trans (hbz.mono Bb.size)))
    all_goals (go_wp2_with fail; go_meet; exact ⟨_, rfl, Oz1, Oz2, Xz, Rz, Bz⟩)
  case rest =>
  obtain ⟨w3, rfl, hA, hB', X3, R3, B23⟩ := hcut
  have O3 := O2.below B23
  have B3 := B2.trans (B23.mono B2.size)
  have hs23 := B23.size
  have hq3 : ∀ k, (Value.slice (some ⟨w1.heap.size, 0, none⟩) 0 0).ownBlock = some k → k < w2.heap.size ∨ w3.heap.size ≤ k := fun k hk => .inl (O2.lt k hk).2
  obtain ⟨o9, c9, rfl⟩ := hA.shapeN (n := xs.length) (ghL_len _ _ _ _)
  obtain ⟨o10, c10, rfl⟩ := hB'.shapeN (n := ys.length) (ghL_len _ _ _ _)
  have hA3 := hA.lt
  have hB3 := hB'.lt
  go_wp2_with fail
  go_loopw [8, 11, 23] (fun s _ k wr => ∃ i : Nat, i ≤ xs.length ∧ k = .int .i64 i ∧ OwI wr (w.heap.size + 3) s (jL f p W xs ys i) ∧ (∀ k, s.ownBlock = some k → k < w2.heap.size ∨ w3.heap.size ≤ k) ∧ Box3 wr w.heap.size (.int .i64 p) (.int .i64 m) (.slice o xs.length c) ∧ RB3 wr (w.heap.size + 2) (.int .i64 0) (.int .i64 0) (.slice none 0 0) ∧ OwI wr w2.heap.size (.slice o9 xs.length c9) (ghL p W xs xs.length) ∧ OwI wr w2.heap.size (.slice o10 ys.length c10) (ghL p W ys ys.length) ∧ Below w.heap.size w wr ∧ w3.heap.size ≤ wr.heap.size) (fun _ _ k _ => xs.length - (intOf k).toNat)
  case atStart => exact ⟨0, Nat.zero_le _, rfl, O3, hq3, X3, R3, hA, hB', B3, Nat.le_refl _⟩
  case round =>
    clear hA hB'
    obtain ⟨i, hi, rfl, hO, hq, hX, hR, hA, hB, hBw, hs3⟩ := hrel
    obtain ⟨ov, cv, rfl⟩ := hO.shapeN (n := i) (jL_len _ _ _ _ _ _)
    obtain ⟨wo, rfl⟩ : ∃ wo : World, wo = wr := ⟨_, rfl⟩
    by_cases hlt : i < xs.length
    · have hil : i < ys.length := by rw [HL.out]; exact hlt
      have hlt' : (i : Int) < (xs.length : Int) := by omega
      have hil' : (i : Int) < (ys.length : Int) := by omega
      have hG1 := mod_lt' (a := gh p (at0 xs) i) (show 0 < W by omega)
      have hG2 := mod_lt' (a := gh p (at0 ys) i) (show 0 < W by omega)
      have hs := Lib.hid (jL_succ f p W xs ys i)
      have hsl : (jL f p W xs ys i).length = i := jL_len _ _ _ _ _ _
      obtain ⟨g9, cp9, hv9, -, -, -, hc9, -⟩ := OwI.opn hA (by rw [ghL_len]; omega)
      rw [ghL_len] at hv9
      obtain ⟨rfl, rfl⟩ : o9 = some ⟨g9, 0, none⟩ ∧ c9 = cp9 := by simp at hv9; exact hv9
      have hx9 := hc9 i (gh p (at0 xs) i % W) (by simp [ghL, hlt])
      clear hc9 hv9
      obtain ⟨g10, cp10, hv10, -, -, -, hc10, -⟩ := OwI.opn hB (by rw [ghL_len]; omega)
      rw [ghL_len] at hv10
      obtain ⟨rfl, rfl⟩ : o10 = some ⟨g10, 0, none⟩ ∧ c10 = cp10 := by simp at hv10; exact hv10
      have hx10 := hc10 i (gh p (at0 ys) i % W) (by simp [ghL, hil])
      clear hc10 hv10
      have hA3' := hA3 g9 rfl
      have hB3' := hB3 g10 rfl
      generalize gh p (at0 xs) i % W = G1 at *
      generalize gh p (at0 ys) i % W = G2 at *
      have HS := Lib.hid hs.out
      clear hs
      have hO3 := hO.below (w' := wo.drew) ((by (repeat (first | exact Below.refl _ _ | (refine Below.setCell ?_ (by first | (simp; done) | (simp; omega) | omega) _) | (refine Below.alloc ?_ (by first | (simp; done) | (simp; omega) | omega) _) | (refine below_drewN ?_ _) | (refine Below.drew ?_)))))
      have hA4 := hA.below (w' := wo.drew) ((by (repeat (first | exact Below.refl _ _ | (refine Below.setCell ?_ (by first | (simp; done) | (simp; omega) | omega) _) | (refine Below.alloc ?_ (by first | (simp; done) | (simp; omega) | omega) _) | (refine below_drewN ?_ _) | (refine Below.drew ?_)))))
      have hB4 := hB.below (w' := wo.drew) ((by (repeat (first | exact Below.refl _ _ | (refine Below.setCell ?_ (by first | (simp; done) | (simp; omega) | omega) _) | (refine Below.alloc ?_ (by first | (simp; done) | (simp; omega) | omega) _) | (refine below_drewN ?_ _) | (refine Below.drew ?_)))))
      have hz := hR.1.lt
      obtain ⟨hj1, hj2⟩ := Hf.out G1 G2 hG1.1 hG1.2 hG2.1 hG2.2
      go_wp2_with fail
      go_region_held3 (fun w' => w'.cell? ⟨g9, i, none⟩ = some (.int .i64 G1) ∧ w'.cell? ⟨g10, i, none⟩ = some (.int .i64 G2)) (first | exact HQ4 | go_keep)
        (first
          | (refine (HF.out G1 G2 _ hG1.1 hG1.2 hG2.1 hG2.2 hBw.drew).mono ?_; rintro e w' ⟨rfl, rfl⟩)
          | (go_at_call 199; (refine (mod_c (f G1 G2) W _ (by omega) (by omega) hj1 hj2).mono ?_; rintro e w' ⟨rfl, rfl⟩))
          | (refine stL _ rfl _ _ rfl (w.heap.size + 3) (.slice ov i cv) _ rfl (hO3.alloc _) ⟨wo.heap.size, 0, none⟩ 1 1 [f G1 G2 % W] rfl (OwI.lit wo.drew [f G1 G2 % W] (by simp [maxLen])).rd (by rw [hsl]; simp; omega) (by simp) (by simp; omega) ?_; intro g4 c4 w4 hO4 hgr hli hb4; have HQ4 : w4.cell? ⟨g9, i, none⟩ = some (.int .i64 G1) ∧ w4.cell? ⟨g10, i, none⟩ = some (.int .i64 G2) := ⟨by rw [hgr.cell_far ⟨g9, i, none⟩ (by simp; omega) (fun e => by have := hq g9 e.symm; omega)]; exact keep_cell (w := wo) ((by (repeat (first | exact Below.refl _ _ | (refine Below.setCell ?_ (by first | (simp; done) | (simp; omega) | omega) _) | (refine Below.alloc ?_ (by first | (simp; done) | (simp; omega) | omega) _) | (refine below_drewN ?_ _) | (refine Below.drew ?_))))) (Nat.le_refl _) hx9, by rw [hgr.cell_far ⟨g10, i, none⟩ (by simp; omega) (fun e => by have := hq g10 e.symm; omega)]; exact keep_cell (w := wo) ((by (repeat (first | exact Below.refl _ _ | (refine Below.setCell ?_ (by first | (simp; done) | (simp; omega) | omega) _) | (refine Below.alloc ?_ (by first | (simp; done) | (simp; omega) | omega) _) | (refine below_drewN ?_ _) | (refine Below.drew ?_))))) (Nat.le_refl _) hx10⟩))
      have hb5 : Below (w.heap.size + 3) wo w4 := Below.trans ((by (repeat (first | exact Below.refl _ _ | (refine Below.setCell ?_ (by first | (simp; done) | (simp; omega) | omega) _) | (refine Below.alloc ?_ (by first | (simp; done) | (simp; omega) | omega) _) | (refine below_drewN ?_ _) | (refine Below.drew ?_))))) hb4
      have hA5 := (hA4.alloc (.cells #[.int .i64 (f G1 G2 % W)] 2)).kept hgr (.inr (fun e => by have := hq g9 e.symm; omega))
      have hB5 := (hB4.alloc (.cells #[.int .i64 (f G1 G2 % W)] 2)).kept hgr (.inr (fun e => by have := hq g10 e.symm; omega))
      have hsz := hb5.size
      have hq5 : ∀ k, (Value.slice (some ⟨g4, 0, none⟩) (i + 1) c4).ownBlock = some k → k < w2.heap.size ∨ w3.heap.size ≤ k := by
        intro k hk
        obtain rfl : g4 = k := by simpa [Value.ownBlock] using hk
        rcases hli with hli | hli
        · exact hq _ hli
        · right; simp at hli; omega
      go_wp2
      have hl5 : (jL f p W xs ys i ++ [f G1 G2 % W]).length = i + 1 := by rw [List.length_append, hsl]; rfl
      rw [hl5] at hO4
      rw [← HS.out] at hO4
      exact ⟨⟨i + 1, by omega, by go_num, hO4, hq5, hX.belowB hb5 (by omega), hR.belowB hb5 (by omega), hA5, hB5, hBw.trans (hb5.mono (by omega)), by omega⟩, by simp [intOf]; omega⟩
    · obtain rfl : i = xs.length := by omega
      have hjl : Hid ((jL f p W xs ys xs.length).length = xs.length) := Lib.hid (jL_len _ _ _ _ _ _)
      have hjr := jL_range (f := f) (p := p) (W := W) (xs := xs) (ys := ys) (k := xs.length) (by omega)
      have hfl : Hid (((fromL W p (jL f p W xs ys xs.length)).map (· % m)).length = xs.length) := Lib.hid (by rw [List.length_map, fromL_len, jL_len])
      have hz := hR.1.lt
      have hBs := hBw.size
      obtain ⟨k0, k1, k2⟩ := id hX
      go_wp2_with fail
      refine (withGhosts_c p m W _ (jL f p W xs ys xs.length) o xs.length c _ hp hO.rd (by rw [hjl.out]; omega) hm hm' HW.out hjr).mono ?_
      rintro e w5 ⟨v5, rfl, how, hb5⟩
      obtain ⟨o5, c5, rfl⟩ := how.shapeN (n := xs.length) hfl.out
      have R5 := hR.below hb5 (Nat.le_refl _)
      have B5 := hBw.trans (hb5.mono hBw.size)
      obtain ⟨⟨r0, r1, r2⟩, rf⟩ := id R5
      go_wp2
      refine bodyPost_ret (v := .agg #[.int .i64 p, .int .i64 m, .slice o5 xs.length c5]) (by simp [results, Try.results171, go_sem, r0, r1, r2]) rfl ⟨_, rfl, ?_, ?_⟩
      · exact ((((how.low hz _).low hz _).low hz _)).mono hBs
      · (repeat (first | exact Below.refl _ _ | (refine Below.setCell ?_ (by first | (simp; done) | (simp; omega) | omega) _) | (refine Below.alloc ?_ (by first | (simp; done) | (simp; omega) | omega) _) | (refine below_drewN ?_ _) | (refine Below.drew ?_) | (refine Below.trans ?_ (Below.mono B5 (by first | (simp; done) | (simp; omega) | omega)))))
set_option maxHeartbeats 2000000 in
set_option maxRecDepth 100000 in
theorem joined2_c (G : Nat) (c0 c1 : Value) (f : Int → Int → Int) (p : Nat) (m : Int) (v u : Value) (xs ys : List Int) (w : World) (hp : P4 p) (hv : RdI w v xs) (hu : RdI w u ys) (h4 : xs.length ≤ 4) (hl : ys.length = xs.length) (hm : 2 ≤ m) (hm' : m ≤ 10000)
    (hx : ∀ x ∈ xs, 0 ≤ x ∧ x ≤ 9000000000000000000) (hy : ∀ x ∈ ys, 0 ≤ x ∧ x ≤ 9000000000000000000) (hG : Callable G)
    (hf : ∀ a b, 0 ≤ a → a < m * (p : Int) ^ 4 → 0 ≤ b → b < m * (p : Int) ^ 4 → -9000000000000000000 ≤ f a b ∧ f a b ≤ 9000000000000000000)
    (hF : ∀ a b w1, 0 ≤ a → a < m * (p : Int) ^ 4 → 0 ≤ b → b < m * (p : Int) ^ 4 → Below w.heap.size w w1 → Calls Try.prog G #[.int .i64 a, .int .i64 b, c0, c1] w1 fun e w' => e = .returned (.int .i64 (f a b)) ∧ w1 = w') :
    Calls Try.prog 171 #[.agg #[.int .i64 p, .int .i64 m, v], .agg #[.int .i64 p, .int .i64 m, u], .func (.func G) #[] #[c0, c1]] w fun e w' => VEnd w w' p m ((fromL (m * (p : Int) ^ 4) p (jL f p (m * (p : Int) ^ 4) xs ys xs.length)).map (· % m)) e := by
  have hpb := hp.bounds
  have hW := wide_bounds hp hm hm' (show 4 ≤ 4 by omega)
  obtain ⟨W, hWe⟩ : ∃ W, m * (p : Int) ^ 4 = W := ⟨_, rfl⟩
  rw [hWe] at hW hf hF ⊢
  have HF := Lib.hid hF
  have Hf := Lib.hid hf
  clear hf hF
  unfold Callable at hG
  have HW := Lib.hid hWe
  have hW0 : 2 ≤ W := by omega
  have hW1 : W ≤ 30000000 := by omega
  clear hWe hW
  obtain ⟨o, c, rfl, hmx, -⟩ := id hv
  obtain ⟨o', c', rfl, hmy, -⟩ := id hu
  have HL := Lib.hid hl
  clear hl
  go_enter Try.func171, Try.ntmps171
  go_wp2_with fail
  (have X0 := ((RB3.mk1 w  (.int .i64 p) (.int .i64 m) (.slice o xs.length c) 59).1).below (w' := (((w.alloc (.cells #[.int .i64 p, .int .i64 m, .slice o xs.length c] 59)).alloc (.cells #[.int .i64 p, .int .i64 m, .slice o' ys.length c'] 59)).alloc (.cells #[.int .i64 0, .int .i64 0, .slice none 0 0] 59))) (by (repeat (first | exact Below.refl _ _ | (refine Below.setCell ?_ (by first | (simp; done) | (simp; omega) | omega) _) | (refine Below.alloc ?_ (by first | (simp; done) | (simp; omega) | omega) _) | (refine below_drewN ?_ _) | (refine Below.drew ?_)))) (Nat.le_refl _); have Y0 := ((RB3.mk2 w (.cells #[.int .i64 p, .int .i64 m, .slice o xs.length c] 59) (.int .i64 p) (.int .i64 m) (.slice o' ys.length c') 59).1).below (w' := (((w.alloc (.cells #[.int .i64 p, .int .i64 m, .slice o xs.length c] 59)).alloc (.cells #[.int .i64 p, .int .i64 m, .slice o' ys.length c'] 59)).alloc (.cells #[.int .i64 0, .int .i64 0, .slice none 0 0] 59))) (by (repeat (first | exact Below.refl _ _ | (refine Below.setCell ?_ (by first | (simp; done) | (simp; omega) | omega) _) | (refine Below.alloc ?_ (by first | (simp; done) | (simp; omega) | omega) _) | (refine below_drewN ?_ _) | (refine Below.drew ?_)))) (Nat.le_refl _); have R0 := ((RB3.mk3 w (.cells #[.int .i64 p, .int .i64 m, .slice o xs.length c] 59) (.cells #[.int .i64 p, .int .i64 m, .slice o' ys.length c'] 59) (.int .i64 0) (.int .i64 0) (.slice none 0 0) 59)).below (w' := (((w.alloc (.cells #[.int .i64 p, .int .i64 m, .slice o xs.length c] 59)).alloc (.cells #[.int .i64 p, .int .i64 m, .slice o' ys.length c'] 59)).alloc (.cells #[.int .i64 0, .int .i64 0, .slice none 0 0] 59))) (by (repeat (first | exact Below.refl _ _ | (refine Below.setCell ?_ (by first | (simp; done) | (simp; omega) | omega) _) | (refine Below.alloc ?_ (by first | (simp; done) | (simp; omega) | omega) _) | (refine below_drewN ?_ _) | (refine Below.drew ?_)))) (Nat.le_refl _); have B0 : Below w.heap.size w (((w.alloc (.cells #[.int .i64 p, .int .i64 m, .slice o xs.length c] 59)).alloc (.cells #[.int .i64 p, .int .i64 m, .slice o' ys.length c'] 59)).alloc (.cells #[.int .i64 0, .int .i64 0, .slice none 0 0] 59)) := (by (repeat (first | exact Below.refl _ _ | (refine Below.setCell ?_ (by first | (simp; done) | (simp; omega) | omega) _) | (refine Below.alloc ?_ (by first | (simp; done) | (simp; omega) | omega) _) | (refine below_drewN ?_ _) | (refine Below.drew ?_)))); have hv0 := hv.below (w' := (((w.alloc (.cells #[.int .i64 p, .int .i64 m, .slice o xs.length c] 59)).alloc (.cells #[.int .i64 p, .int .i64 m, .slice o' ys.length c'] 59)).alloc (.cells #[.int .i64 0, .int .i64 0, .slice none 0 0] 59))) (by (repeat (first | exact Below.refl _ _ | (refine Below.setCell ?_ (by first | (simp; done) | (simp; omega) | omega) _) | (refine Below.alloc ?_ (by first | (simp; done) | (simp; omega) | omega) _) | (refine below_drewN ?_ _) | (refine Below.drew ?_)))) (Nat.le_refl _); have hu0 := hu.below (w' := (((w.alloc (.cells #[.int .i64 p, .int .i64 m, .slice o xs.length c] 59)).alloc (.cells #[.int .i64 p, .int .i64 m, .slice o' ys.length c'] 59)).alloc (.cells #[.int .i64 0, .int .i64 0, .slice none 0 0] 59))) (by (repeat (first | exact Below.refl _ _ | (refine Below.setCell ?_ (by first | (simp; done) | (simp; omega) | omega) _) | (refine Below.alloc ?_ (by first | (simp; done) | (simp; omega) | omega) _) | (refine below_drewN ?_ _) | (refine Below.drew ?_)))) (Nat.le_refl _); generalize ((w.alloc (.cells #[.int .i64 p, .int .i64 m, .slice o xs.length c] 59)).alloc (.cells #[.int .i64 p, .int .i64 m, .slice o' ys.length c'] 59)).alloc (.cells #[.int .i64 0, .int .i64 0, .slice none 0 0] 59) = w0 at X0 Y0 R0 B0 hv0 hu0 ⊢)
  obtain ⟨k0, k1, k2⟩ := id X0
  go_wp2_with fail
  refine (wide_c p m o xs.length c _ hp hm hm').mono ?_
  rw [HW.out]
  rintro e w1 ⟨rfl, hb⟩
  (have X1 := X0.below hb (Nat.le_refl _); have Y1 := Y0.below hb (Nat.le_refl _); have R1 := R0.below hb (Nat.le_refl _); have hv1 := hv0.below hb (Nat.le_refl _); have hu1 := hu0.below hb (Nat.le_refl _); have B1 := B0.trans (hb.mono B0.size))
  clear k0 k1 k2
  go_wp2_with fail
  have O2 := (OwI.lit w1 [] (by decide)).mono (show w.heap.size + 3 ≤ w1.heap.size from R1.1.lt)
  have hbw : Below w1.heap.size w1 (w1.alloc (.cells #[] 2)) := (by (repeat (first | exact Below.refl _ _ | (refine Below.setCell ?_ (by first | (simp; done) | (simp; omega) | omega) _) | (refine Below.alloc ?_ (by first | (simp; done) | (simp; omega) | omega) _) | (refine below_drewN ?_ _) | (refine Below.drew ?_))))
  (have X2 := X1.below hbw (Nat.le_refl _); have Y2 := Y1.below hbw (Nat.le_refl _); have R2 := R1.below hbw (Nat.le_refl _); have hv2 := hv1.below hbw (Nat.le_refl _); have hu2 := hu1.below hbw (Nat.le_refl _); have B2 := B1.trans (hbw.mono B1.size))
  simp at O2
  generalize w1.alloc (.cells #[] 2) = w2 at O2 X2 Y2 R2 B2 hv2 hu2 ⊢
  clear hbw
  go_cut [9, 10] (fun s9 s10 wx => ∃ w3, w3 = wx ∧ OwI wx w2.heap.size s9 (ghL p W xs xs.length) ∧ OwI wx w2.heap.size s10 (ghL p W ys ys.length) ∧ Box3 wx w.heap.size (.int .i64 p) (.int .i64 m) (.slice o xs.length c) ∧ RB3 wx (w.heap.size + 2) (.int .i64 0) (.int .i64 0) (.slice none 0 0) ∧ Below w2.heap.size w2 wx)
  case first =>
    obtain ⟨k0, k1, k2⟩ := id X2
    obtain ⟨y0, y1, y2⟩ := id Y2
    have hbd : Below w2.heap.size w2 w2.drew := (Below.refl _ _).drew
    have hvd := hv2.below hbd (Nat.le_refl _)
    have hud := hu2.below hbd (Nat.le_refl _)
    have Xd := X2.below hbd (Nat.le_refl _)
    have Yd := Y2.below hbd (Nat.le_refl _)
    have Rd := R2.below hbd (Nat.le_refl _)
    go_region_held3 (fun w' => w'.cell? ⟨w.heap.size, 0, none⟩ = some (.int .i64 p) ∧ w'.cell? ⟨w.heap.size, 1, none⟩ = some (.int .i64 m) ∧ w'.cell? ⟨w.heap.size, 2, none⟩ = some (.slice o xs.length c) ∧ w'.cell? ⟨w.heap.size + 1, 0, none⟩ = some (.int .i64 p) ∧ w'.cell? ⟨w.heap.size + 1, 1, none⟩ = some (.int .i64 m) ∧ w'.cell? ⟨w.heap.size + 1, 2, none⟩ = some (.slice o' ys.length c')) (first | exact ⟨Xz.1, Xz.2.1, Xz.2.2, Yz⟩ | exact ⟨Xa.1, Xa.2.1, Xa.2.2, Ya⟩ | exact ⟨Xb.1, Xb.2.1, Xb.2.2, Yb⟩ | go_keep)
      (first
        | (go_at_call_of 184 (Value.agg #[.int .i64 p, .int .i64 m, .slice o xs.length c]); refine (ghosts_c p W m _ xs w2.drew hp hvd h4 (by omega) (by omega) hx).mono ?_; rintro e wa ⟨va, rfl, hoa, hba⟩; have Oa := hoa.mono (Nat.le_refl w2.heap.size); have Xa := Xd.below hba (Nat.le_refl _); have Ya := Yd.below hba (Nat.le_refl _); have Ra := Rd.below hba (Nat.le_refl _); have hua := hud.below hba (Nat.le_refl _); have Ba := hbd.trans (hba.mono hbd.size))
        | (go_at_call_of 184 (Value.agg #[.int .i64 p, .int .i64 m, .slice o' ys.length c']); refine (ghosts_c p W m _ ys wa hp hua (by rw [HL.out]; exact h4) (by omega) (by omega) hy).mono ?_; rintro e wz ⟨vz, rfl, hoz, hbz⟩; have Oz2 := hoz.mono Ba.size; have Oz1 := Oa.below hbz; have Xz := Xa.below hbz (Nat.le_refl _); have Yz := Ya.below hbz (Nat.le_refl _); have Rz := Ra.below hbz (Nat.le_refl _); have Bz := Ba.trans (hbz.mono Ba.size))
        | (go_at_call_of 184 (Value.agg #[.int .i64 p, .int .i64 m, .slice o' ys.length c']); refine (ghosts_c p W m _ ys w2.drew hp hud (by rw [HL.out]; exact h4) (by omega) (by omega) hy).mono ?_; rintro e wb ⟨vb, rfl, hob, hbb⟩; have Ob := hob.mono (Nat.le_refl w2.heap.size); have Xb := Xd.below hbb (Nat.le_refl _); have Yb := Yd.below hbb (Nat.le_refl _); have Rb := Rd.below hbb (Nat.le_refl _); have hvb := hvd.below hbb (Nat.le_refl _); have Bb := hbd.trans (hbb.mono hbd.size))
        | (go_at_call_of 184 (Value.agg #[.int .i64 p, .int .i64 m, .slice o xs.length c]); refine (ghosts_c p W m _ xs wb hp hvb h4 (by omega) (by omega) hx).mono ?_; rintro e wz ⟨vz, rfl, hoz, hbz⟩; have Oz1 := hoz.mono Bb.size; have Oz2 := Ob.below hbz; have Xz := Xb.below hbz (Nat.le_refl _); have Yz := Yb.below hbz (Nat.le_refl _); have Rz := Rb.below hbz (Nat.le_refl _); have Bz := Bb.trans (hbz.mono Bb.size)))
    all_goals (go_wp2_with fail; go_meet; exact ⟨_, rfl, Oz1, Oz2, Xz, Rz, Bz⟩)
  case rest =>
  obtain ⟨w3, rfl, hA, hB', X3, R3, B23⟩ := hcut
  have O3 := O2.below B23
  have B3 := B2.trans (B23.mono B2.size)
  have hs23 := B23.size
  have hq3 : ∀ k, (Value.slice (some ⟨w1.heap.size, 0, none⟩) 0 0).ownBlock = some k → k < w2.heap.size ∨ w3.heap.size ≤ k := fun k hk => .inl (O2.lt k hk).2
  obtain ⟨o9, c9, rfl⟩ := hA.shapeN (n := xs.length) (ghL_len _ _ _ _)
  obtain ⟨o10, c10, rfl⟩ := hB'.shapeN (n := ys.length) (ghL_len _ _ _ _)
  have hA3 := hA.lt
  have hB3 := hB'.lt
  go_wp2_with fail
  go_loopw [8, 11, 23] (fun s _ k wr => ∃ i : Nat, i ≤ xs.length ∧ k = .int .i64 i ∧ OwI wr (w.heap.size + 3) s (jL f p W xs ys i) ∧ (∀ k, s.ownBlock = some k → k < w2.heap.size ∨ w3.heap.size ≤ k) ∧ Box3 wr w.heap.size (.int .i64 p) (.int .i64 m) (.slice o xs.length c) ∧ RB3 wr (w.heap.size + 2) (.int .i64 0) (.int .i64 0) (.slice none 0 0) ∧ OwI wr w2.heap.size (.slice o9 xs.length c9) (ghL p W xs xs.length) ∧ OwI wr w2.heap.size (.slice o10 ys.length c10) (ghL p W ys ys.length) ∧ Below w.heap.size w wr ∧ w3.heap.size ≤ wr.heap.size) (fun _ _ k _ => xs.length - (intOf k).toNat)
  case atStart => exact ⟨0, Nat.zero_le _, rfl, O3, hq3, X3, R3, hA, hB', B3, Nat.le_refl _⟩
  case round =>
    clear hA hB'
    obtain ⟨i, hi, rfl, hO, hq, hX, hR, hA, hB, hBw, hs3⟩ := hrel
    obtain ⟨ov, cv, rfl⟩ := hO.shapeN (n := i) (jL_len _ _ _ _ _ _)
    obtain ⟨wo, rfl⟩ : ∃ wo : World, wo = wr := ⟨_, rfl⟩
    by_cases hlt : i < xs.length
    · have hil : i < ys.length := by rw [HL.out]; exact hlt
      have hlt' : (i : Int) < (xs.length : Int) := by omega
      have hil' : (i : Int) < (ys.length : Int) := by omega
      have hG1 := mod_lt' (a := gh p (at0 xs) i) (show 0 < W by omega)
      have hG2 := mod_lt' (a := gh p (at0 ys) i) (show 0 < W by omega)
      have hs := Lib.hid (jL_succ f p W xs ys i)
      have hsl : (jL f p W xs ys i).length = i := jL_len _ _ _ _ _ _
      obtain ⟨g9, cp9, hv9, -, -, -, hc9, -⟩ := OwI.opn hA (by rw [ghL_len]; omega)
      rw [ghL_len] at hv9
      obtain ⟨rfl, rfl⟩ : o9 = some ⟨g9, 0, none⟩ ∧ c9 = cp9 := by simp at hv9; exact hv9
      have hx9 := hc9 i (gh p (at0 xs) i % W) (by simp [ghL, hlt])
      clear hc9 hv9
      obtain ⟨g10, cp10, hv10, -, -, -, hc10, -⟩ := OwI.opn hB (by rw [ghL_len]; omega)
      rw [ghL_len] at hv10
      obtain ⟨rfl, rfl⟩ : o10 = some ⟨g10, 0, none⟩ ∧ c10 = cp10 := by simp at hv10; exact hv10
      have hx10 := hc10 i (gh p (at0 ys) i % W) (by simp [ghL, hil])
      clear hc10 hv10
      have hA3' := hA3 g9 rfl
      have hB3' := hB3 g10 rfl
      generalize gh p (at0 xs) i % W = G1 at *
      generalize gh p (at0 ys) i % W = G2 at *
      have HS := Lib.hid hs.out
      clear hs
      have hO3 := hO.below (w' := wo.drew) ((by (repeat (first | exact Below.refl _ _ | (refine Below.setCell ?_ (by first | (simp; done) | (simp; omega) | omega) _) | (refine Below.alloc ?_ (by first | (simp; done) | (simp; omega) | omega) _) | (refine below_drewN ?_ _) | (refine Below.drew ?_)))))
      have hA4 := hA.below (w' := wo.drew) ((by (repeat (first | exact Below.refl _ _ | (refine Below.setCell ?_ (by first | (simp; done) | (simp; omega) | omega) _) | (refine Below.alloc ?_ (by first | (simp; done) | (simp; omega) | omega) _) | (refine below_drewN ?_ _) | (refine Below.drew ?_)))))
      have hB4 := hB.below (w' := wo.drew) ((by (repeat (first | exact Below.refl _ _ | (refine Below.setCell ?_ (by first | (simp; done) | (simp; omega) | omega) _) | (refine Below.alloc ?_ (by first | (simp; done) | (simp; omega) | omega) _) | (refine below_drewN ?_ _) | (refine Below.drew ?_)))))
      have hz := hR.1.lt
      obtain ⟨hj1, hj2⟩ := Hf.out G1 G2 hG1.1 hG1.2 hG2.1 hG2.2
      go_wp2_with fail
      go_region_held3 (fun w' => w'.cell? ⟨g9, i, none⟩ = some (.int .i64 G1) ∧ w'.cell? ⟨g10, i, none⟩ = some (.int .i64 G2)) (first | exact HQ4 | go_keep)
        (first
          | (refine (HF.out G1 G2 _ hG1.1 hG1.2 hG2.1 hG2.2 hBw.drew).mono ?_; rintro e w' ⟨rfl, rfl⟩)
          | (go_at_call 199; (refine (mod_c (f G1 G2) W _ (by omega) (by omega) hj1 hj2).mono ?_; rintro e w' ⟨rfl, rfl⟩))
          | (refine stL _ rfl _ _ rfl (w.heap.size + 3) (.slice ov i cv) _ rfl (hO3.alloc _) ⟨wo.heap.size, 0, none⟩ 1 1 [f G1 G2 % W] rfl (OwI.lit wo.drew [f G1 G2 % W] (by simp [maxLen])).rd (by rw [hsl]; simp; omega) (by simp) (by simp; omega) ?_; intro g4 c4 w4 hO4 hgr hli hb4; have HQ4 : w4.cell? ⟨g9, i, none⟩ = some (.int .i64 G1) ∧ w4.cell? ⟨g10, i, none⟩ = some (.int .i64 G2) := ⟨by rw [hgr.cell_far ⟨g9, i, none⟩ (by simp; omega) (fun e => by have := hq g9 e.symm; omega)]; exact keep_cell (w := wo) ((by (repeat (first | exact Below.refl _ _ | (refine Below.setCell ?_ (by first | (simp; done) | (simp; omega) | omega) _) | (refine Below.alloc ?_ (by first | (simp; done) | (simp; omega) | omega) _) | (refine below_drewN ?_ _) | (refine Below.drew ?_))))) (Nat.le_refl _) hx9, by rw [hgr.cell_far ⟨g10, i, none⟩ (by simp; omega) (fun e => by have := hq g10 e.symm; omega)]; exact keep_cell (w := wo) ((by (repeat (first | exact Below.refl _ _ | (refine Below.setCell ?_ (by first | (simp; done) | (simp; omega) | omega) _) | (refine Below.alloc ?_ (by first | (simp; done) | (simp; omega) | omega) _) | (refine below_drewN ?_ _) | (refine Below.drew ?_))))) (Nat.le_refl _) hx10⟩))
      have hb5 : Below (w.heap.size + 3) wo w4 := Below.trans ((by (repeat (first | exact Below.refl _ _ | (refine Below.setCell ?_ (by first | (simp; done) | (simp; omega) | omega) _) | (refine Below.alloc ?_ (by first | (simp; done) | (simp; omega) | omega) _) | (refine below_drewN ?_ _) | (refine Below.drew ?_))))) hb4
      have hA5 := (hA4.alloc (.cells #[.int .i64 (f G1 G2 % W)] 2)).kept hgr (.inr (fun e => by have := hq g9 e.symm; omega))
      have hB5 := (hB4.alloc (.cells #[.int .i64 (f G1 G2 % W)] 2)).kept hgr (.inr (fun e => by have := hq g10 e.symm; omega))
      have hsz := hb5.size
      have hq5 : ∀ k, (Value.slice (some ⟨g4, 0, none⟩) (i + 1) c4).ownBlock = some k → k < w2.heap.size ∨ w3.heap.size ≤ k := by
        intro k hk
        obtain rfl : g4 = k := by simpa [Value.ownBlock] using hk
        rcases hli with hli | hli
        · exact hq _ hli
        · right; simp at hli; omega
      go_wp2
      have hl5 : (jL f p W xs ys i ++ [f G1 G2 % W]).length = i + 1 := by rw [List.length_append, hsl]; rfl
      rw [hl5] at hO4
      rw [← HS.out] at hO4
      exact ⟨⟨i + 1, by omega, by go_num, hO4, hq5, hX.belowB hb5 (by omega), hR.belowB hb5 (by omega), hA5, hB5, hBw.trans (hb5.mono (by omega)), by omega⟩, by simp [intOf]; omega⟩
    · obtain rfl : i = xs.length := by omega
      have hjl : Hid ((jL f p W xs ys xs.length).length = xs.length) := Lib.hid (jL_len _ _ _ _ _ _)
      have hjr := jL_range (f := f) (p := p) (W := W) (xs := xs) (ys := ys) (k := xs.length) (by omega)
      have hfl : Hid (((fromL W p (jL f p W xs ys xs.length)).map (· % m)).length = xs.length) := Lib.hid (by rw [List.length_map, fromL_len, jL_len])
      have hz := hR.1.lt
      have hBs := hBw.size
      obtain ⟨k0, k1, k2⟩ := id hX
      go_wp2_with fail
      refine (withGhosts_c p m W _ (jL f p W xs ys xs.length) o xs.length c _ hp hO.rd (by rw [hjl.out]; omega) hm hm' HW.out hjr).mono ?_
      rintro e w5 ⟨v5, rfl, how, hb5⟩
      obtain ⟨o5, c5, rfl⟩ := how.shapeN (n := xs.length) hfl.out
      have R5 := hR.below hb5 (Nat.le_refl _)
      have B5 := hBw.trans (hb5.mono hBw.size)
      obtain ⟨⟨r0, r1, r2⟩, rf⟩ := id R5
      go_wp2
      refine bodyPost_ret (v := .agg #[.int .i64 p, .int .i64 m, .slice o5 xs.length c5]) (by simp [results, Try.results171, go_sem, r0, r1, r2]) rfl ⟨_, rfl, ?_, ?_⟩
      · exact ((((how.low hz _).low hz _).low hz _)).mono hBs
      · (repeat (first | exact Below.refl _ _ | (refine Below.setCell ?_ (by first | (simp; done) | (simp; omega) | omega) _) | (refine Below.alloc ?_ (by first | (simp; done) | (simp; omega) | omega) _) | (refine below_drewN ?_ _) | (refine Below.drew ?_) | (refine Below.trans ?_ (Below.mono B5 (by first | (simp; done) | (simp; omega) | omega)))))
end Go.Proofs.Ytcjinlfgeljmkaa
