/- Lemmas. -/
import Derived.Test.YteijannfbafdpaaGreatDoorSZM13
import Derived.Test.YteijannfbafdpaaGreatDoorSZM2
import Derived.Test.YteijannfbafdpaaGreatDoorSZG7
import Derived.Test.YteijannfbafdpaaGreatDoorSZG18
import Derived.Test.YteijannfbafdpaaGreatDoorSZG3
import Derived.Deep.RegionHeld3
import Derived.Test.YteijannfbafdpaaGreatDoorSZM10
import Derived.Test.YteijannfbafdpaaGreatDoorSZG2
import Derived.Test.YteijannfbafdpaaGreatDoorSZG15
import Derived.Test.YteijannfbafdpaaGreatDoorSZM8
import Derived.Test.YteijannfbafdpaaGreatDoorSZG1
set_option linter.unusedSimpArgs false
set_option linter.unusedVariables false
namespace Go.Proofs.YteijannfbafdpaaGreatDoor
open Rg

section gen
variable {T : Type} [Rg T]
theorem ev2_onx {n : Nat} (h1 : 1 ≤ n) (f : Nat → Int) (a b : T) : ev2 n (onx f) a b = ev1 n f a := by
  rw [ev2_sum]
  unfold ev1 ex
  refine sm_congr fun i _ => ?_
  obtain ⟨r, rfl⟩ : ∃ r, n = r + 1 := ⟨n - 1, by omega⟩
  rw [sm_first, sm_none fun j _ => by show ml (ic (onx f i (j + 1))) _ = zz; rw [show onx f i (j + 1) = 0 from rfl, ic_0, zz_ml], ad_zz]
  show ml (ic (onx f i 0)) (ml (pw a i) oo) = _
  rw [ml_oo]; rfl
theorem ev2_ony {n : Nat} (h1 : 1 ≤ n) (f : Nat → Int) (a b : T) : ev2 n (ony f) a b = ev1 n f b := by
  rw [ev2_sum]
  obtain ⟨r, rfl⟩ : ∃ r, n = r + 1 := ⟨n - 1, by omega⟩
  rw [sm_first, sm_none fun i _ => sm_none fun j _ => by show ml (ic (ony f (i + 1) j)) _ = zz; rw [show ony f (i + 1) j = 0 from rfl, ic_0, zz_ml], ad_zz]
  unfold ev1 ex
  refine sm_congr fun j _ => ?_
  show ml (ic (ony f 0 j)) (ml oo (pw b j)) = _
  rw [oo_ml]; rfl
theorem lo_ev1 {m : Int} {n : Nat} {f : Nat → Int} (hf : lo m 1 f) (hn : 1 ≤ n) {a : T} (ha : lo m 1 a) : lo m 1 (ev1 n f a) := (hm1 (n := n) ha).lo 1 f hn hf
end gen
theorem hm_ev1 {S T : Type} [Rg S] [Rg T] {m : Int} {n : Nat} {φ : S → T} (H : Hm m n φ) (f : Nat → Int) (a : S) : eqv m n (φ (ev1 n f a)) (ev1 n f (φ a)) := H.of_ex (χ := fun c => ic c) (ψ := fun c => ic c) (fun c => H.ic c) a f
theorem hm_ev2 {S T : Type} [Rg S] [Rg T] {m : Int} {n : Nat} {φ : S → T} (H : Hm m n φ) (F : Nat → Nat → Int) (a b : S) : eqv m n (φ (ev2 n F a b)) (ev2 n F (φ a) (φ b)) :=
  H.of_ex (χ := ex n (fun c => ic c) b) (ψ := ex n (fun c => ic c) (φ b)) (fun x => H.of_ex (χ := fun c => ic c) (ψ := fun c => ic c) (fun c => H.ic c) b x) a F

structure Cnj (m : Int) (n : Nat) (F G : Nat → Nat → Int) (f g : Nat → Int) : Prop where
  two : 2 ≤ n
  lf : lo m 1 f
  lg : lo m 1 g
  fg : eqv m n (ev1 n f g) xS
  gf : eqv m n (ev1 n g f) xS
  ok : eqv m n G (ev1 n f (ev2 n F (onx g) (ony g)))
section cnj
variable {m : Int} {n : Nat} {F G : Nat → Nat → Int} {f g : Nat → Int}
theorem Cnj.back {T : Type} [Rg T] (C : Cnj m n F G f g) {a : T} (ha : lo m 1 a) : eqv m n (ev1 n g (ev1 n f a)) a := by
  refine eqv_trans (eqv_symm (ev1_ev1 ha g f)) (eqv_trans (ev1_f ha (Nat.le_refl _) C.gf) (eqv_of ?_))
  exact ev1_xl (m := m) C.two a
theorem Cnj.forth {T : Type} [Rg T] (C : Cnj m n F G f g) {a : T} (ha : lo m 1 a) : eqv m n (ev1 n f (ev1 n g a)) a := by
  refine eqv_trans (eqv_symm (ev1_ev1 ha f g)) (eqv_trans (ev1_f ha (Nat.le_refl _) C.fg) (eqv_of ?_))
  exact ev1_xl (m := m) C.two a
theorem Cnj.at {T : Type} [Rg T] (C : Cnj m n F G f g) {a b : T} (ha : lo m 1 a) (hb : lo m 1 b) : eqv m n (ev2 n G a b) (ev1 n f (ev2 n F (ev1 n g a) (ev1 n g b))) := by
  have h2 := C.two
  have H : Hm m n (fun X => Go.Proofs.YteijannfbafdpaaGreatDoor.ev2 n X a b) := hm2 ha hb
  refine eqv_trans (H.eqv (Nat.le_refl _) C.ok) (eqv_trans (hm_ev1 H f _) (ev1_a f ?_))
  have e := hm_ev2 H F (onx g) (ony g)
  rw [ev2_onx (by omega), ev2_ony (by omega)] at e
  exact e
theorem Cnj.lw (C : Cnj m n F G f g) (L : Lw m n F) (h0 : G 0 0 = 0) : Lw m n G := by
  have h2 := C.two
  have l2 : ∀ {T : Type} [Rg T] {a b : T}, lo m 1 a → lo m 1 b → lo m 1 (ev2 n F a b) := fun ha hb => ev2_lo F L.zer (Nat.le_refl _) ha hb
  have l2' : ∀ {T : Type} [Rg T] {a b : T}, lo m 1 a → lo m 1 b → lo m 1 (ev2 n G a b) := fun ha hb => ev2_lo G h0 (Nat.le_refl _) ha hb
  have cg : ∀ {T : Type} [Rg T] {a b a' b' : T}, lo m 1 a → lo m 1 b → eqv m n a a' → eqv m n b b' → eqv m n (ev2 n F a b) (ev2 n F a' b') := fun ha hb ea eb => ev2_eqv ha hb (Nat.le_refl _) (fun _ _ _ => rfl) ea eb
  have lx := lo_xP m
  have ly := lo_yP m
  refine lw_of_ev h2 h0 ?_ ?_ ?_
  · have h1 := C.at (lo_x m) (lo_zz m 1 : lo m 1 (zz : Nat → Int))
    have gz : eqv m n (ev1 n g (zz : Nat → Int)) zz := ev1_zz (by
      have := C.lg 0
      rcases this with h | h
      · omega
      · exact Int.emod_eq_zero_of_dvd h)
    have e1 := eqv_trans (cg (lo_ev1 (n := n) C.lg (by omega) (lo_x m)) (lo_ev1 (n := n) C.lg (by omega) (lo_zz m 1 : lo m 1 (zz : Nat → Int))) eqv_rfl gz) (ev2_zz L _)
    have e2 := eqv_trans h1 (eqv_trans (ev1_a f e1) (C.forth (lo_x m)))
    have e3 : ev2 n G xS zz = ev1 n (fun i => G i 0) xS := by
      rw [ev2_sum]
      unfold ev1 ex
      refine sm_congr fun i _ => ?_
      obtain ⟨k, rfl⟩ : ∃ k, n = k + 1 := ⟨n - 1, by omega⟩
      rw [sm_first, sm_none (n := k) fun j _ => by rw [pw_zz, ml_zz, ml_zz], ad_zz]
      show ml _ (ml _ oo) = _
      rw [ml_oo]
    rw [e3] at e2
    have e4 := eqv_trans (eqv_symm (ev1_x (fun i => G i 0))) e2
    intro i hi
    exact eqv1.1 e4 i hi
  · have a1 := C.at ly lx
    have a2 := C.at lx ly
    have e := eqv_trans (eqv_symm (ev2_self G)) (eqv_trans a2 (eqv_trans (ev1_a f (ev2_comm L (lo_ev1 C.lg (by omega) lx) (lo_ev1 C.lg (by omega) ly))) (eqv_trans (eqv_symm a1) (ev2_swap G))))
    exact fun i j hij => eqv2.1 e i j hij
  · have lX : lo m 1 X3 := lo_mono m
    have lY : lo m 1 Y3 := lo_cst (lo_xP m)
    have lZ : lo m 1 Z3 := lo_cst (lo_yP m)
    have gX := lo_ev1 (n := n) C.lg (by omega) lX
    have gY := lo_ev1 (n := n) C.lg (by omega) lY
    have gZ := lo_ev1 (n := n) C.lg (by omega) lZ
    have b1 : eqv m n (ev1 n g (ev2 n G X3 Y3)) (ev2 n F (ev1 n g X3) (ev1 n g Y3)) := eqv_trans (ev1_a g (C.at lX lY)) (C.back (l2 gX gY))
    have b2 : eqv m n (ev1 n g (ev2 n G Y3 Z3)) (ev2 n F (ev1 n g Y3) (ev1 n g Z3)) := eqv_trans (ev1_a g (C.at lY lZ)) (C.back (l2 gY gZ))
    have a1 := eqv_trans (C.at (l2' lX lY) lZ) (ev1_a f (cg (lo_ev1 C.lg (by omega) (l2' lX lY)) gZ b1 eqv_rfl))
    have a2 := eqv_trans (C.at lX (l2' lY lZ)) (ev1_a f (cg gX (lo_ev1 C.lg (by omega) (l2' lY lZ)) eqv_rfl b2))
    exact eqv_trans a1 (eqv_trans (ev1_a f (ev2_assoc L gX gY gZ)) (eqv_symm a2))
theorem Cnj.hom {T : Type} [Rg T] (C : Cnj m n F G f g) (L : Lw m n F) {a b : T} (ha : lo m 1 a) (hb : lo m 1 b) : eqv m n (ev2 n G (ev1 n f a) (ev1 n f b)) (ev1 n f (ev2 n F a b)) := by
  have h2 := C.two
  refine eqv_trans (C.at (lo_ev1 C.lf (by omega) ha) (lo_ev1 C.lf (by omega) hb)) (ev1_a f ?_)
  exact ev2_eqv (lo_ev1 C.lg (by omega) (lo_ev1 C.lf (by omega) ha)) (lo_ev1 C.lg (by omega) (lo_ev1 C.lf (by omega) hb)) (Nat.le_refl _) (fun _ _ _ => rfl) (C.back ha) (C.back hb)
theorem Cnj.low (C : Cnj m n F G f g) (L : Lw m n F) (h0 : G 0 0 = 0) {k : Nat} {b : Int} (hk : 2 ≤ k) (hkn : k + 1 ≤ n) (hf : eqv m n f (ad xS (mon k b))) :
    eqv m (k + 1) (ad G (ad (ml (ic b) (pw xP k)) (ml (ic b) (pw yP k)))) (ad F (ml (ic b) (pw (ad xP yP) k))) := by
  have h2 := C.two
  have LG := C.lw L h0
  have lx := lo_xP m
  have ly := lo_yP m
  have mono : ∀ (X : Nat → Nat → Int), lo m 1 X → eqv m n (Go.Proofs.YteijannfbafdpaaGreatDoor.ev1 n f X) (ad X (ml (ic b) (pw X k))) := by
    intro X hX
    refine eqv_trans (ev1_f hX (Nat.le_refl _) hf) (eqv_of ?_)
    have H : Hm m n (fun u => Go.Proofs.YteijannfbafdpaaGreatDoor.ev1 n u X) := hm1 hX
    rw [H.ad, ev1_xl (m := m) h2]
    congr 1
    unfold Go.Proofs.YteijannfbafdpaaGreatDoor.ev1 ex mon
    exact sum_at (by omega) b (fun i => pw X i)
  have e := C.hom L lx ly
  have l1 : eqv m (k + 1) (ev2 n G (Go.Proofs.YteijannfbafdpaaGreatDoor.ev1 n f xP) (Go.Proofs.YteijannfbafdpaaGreatDoor.ev1 n f yP)) (ad G (ad (ml (ic b) (pw xP k)) (ml (ic b) (pw yP k)))) := by
    have lk : ∀ X : Nat → Nat → Int, lo m 1 X → lo m k (ml (ic b) (pw X k)) := fun X hX => lo_mul _ (pw_lo hX k)
    have s1 : eqv m n (ev2 n G (Go.Proofs.YteijannfbafdpaaGreatDoor.ev1 n f xP) (Go.Proofs.YteijannfbafdpaaGreatDoor.ev1 n f yP)) (ev2 n G (ad xP (ml (ic b) (pw xP k))) (ad yP (ml (ic b) (pw yP k)))) :=
      ev2_eqv (lo_ev1 C.lf (by omega) lx) (lo_ev1 C.lf (by omega) ly) (Nat.le_refl _) (fun _ _ _ => rfl) (mono _ lx) (mono _ ly)
    have lxx : lo m 1 (ad xP (ml (ic b) (pw xP k))) := lo_ad lx (lo_le (lk _ lx) (by omega))
    have s2 := ev2_late LG lxx ly (lk _ ly) (by omega) hkn (Nat.le_refl (k + 1))
    have s3 := ev2_comm LG lxx ly
    have s4 := ev2_late LG ly lx (lk _ lx) (by omega) hkn (Nat.le_refl (k + 1))
    have s5 := eqv_trans (ev2_comm LG ly lx) (ev2_self G)
    refine eqv_trans (eqv_le s1 hkn) (eqv_trans s2 ?_)
    refine eqv_trans (eqv_ad (eqv_trans (eqv_le s3 hkn) (eqv_trans s4 (eqv_ad (eqv_le s5 hkn) eqv_rfl))) eqv_rfl) (eqv_of ?_)
    exact ad_assoc _ _ _
  have l3 : eqv m (k + 1) (Go.Proofs.YteijannfbafdpaaGreatDoor.ev1 n f (ev2 n F xP yP)) (ad F (ml (ic b) (pw (ad xP yP) k))) := by
    refine eqv_trans (eqv_le (ev1_a f (ev2_self F)) hkn) (eqv_trans (eqv_le (mono F (lo_law L)) hkn) ?_)
    exact eqv_ad eqv_rfl (eqv_mll _ (pw_up1 (lo_law L) (lo_xy m) (law_xy L) k))
  exact eqv_trans (eqv_symm l1) (eqv_trans (eqv_le e hkn) l3)
end cnj
end Go.Proofs.YteijannfbafdpaaGreatDoor
/- Sums, products and compositions of series: the functions that are called. -/
set_option linter.unusedSimpArgs false
set_option linter.unusedVariables false
namespace Go.Proofs.YteijannfbafdpaaGreatDoor
open Go.RowKit

end Go.Proofs.YteijannfbafdpaaGreatDoor

/- Compositions of series: the reference, and the functions that are called. -/
set_option linter.unusedSimpArgs false
set_option linter.unusedVariables false
namespace Go.Proofs.YteijannfbafdpaaGreatDoor
open Go.RowKit

theorem horn_take {m : Int} {n : Nat} {f a : List Int} {k : Nat} (hk : k < a.length) : horn m n f (a.drop k) = addc m (at0 a k) (timesL m n (horn m n f (a.drop (k + 1))) f) := horn_drop (some_at0 hk)

set_option maxHeartbeats 2000000 in
set_option maxRecDepth 100000 in
theorem l02Compose_c (m d : Int) (n : Nat) (v u : Value) (xs fs : List Int) (w : World) (hd : d = (n : Int) - 1) (hv : RdI w v xs) (hu : RdI w u fs) (h1 : 1 ≤ n) (hl : 1 ≤ xs.length) (hn : n ≤ 1048576) (hm : 2 ≤ m) (hm' : m ≤ 10000)
    (hx : ∀ x ∈ xs, 0 ≤ x ∧ x < m) (hf : ∀ x ∈ fs, 0 ≤ x ∧ x < m) :
    Calls Tryz.prog 69 #[.int .i64 m, v, u, .int .i64 d] w fun e w' => ∃ v', e = .returned v' ∧ OwI w' w.heap.size v' (horn m n fs (xs.take n)) ∧ Below w.heap.size w w' := by
  subst hd
  obtain ⟨o, c, rfl, hmx, -⟩ := id hv
  obtain ⟨o', c', rfl, hmy, -⟩ := id hu
  have hml := hmx.1
  unfold maxLen at hmx hmy
  have m0 : (m == 0) = false := by simp; omega
  have m1 : ¬ m = 0 := by omega
  obtain ⟨bx, fx, rfl, -⟩ := hv.cells hl
  have hls : (xs.take n).length = min n xs.length := List.length_take
  have HR := Lib.hid (show ∀ k, k < (xs.take n).length → at0 (xs.take n) k = at0 xs k from fun k hk => by
    unfold at0 List.getD; rw [List.getElem?_take, if_pos (by omega)])
  generalize xs.take n = zs at hls HR ⊢
  obtain ⟨z, hz, hzz⟩ : ∃ z : Nat, min ((xs.length : Int) - 1) ((n : Int) - 1) = (z : Int) - 1 ∧ zs.length = z := ⟨zs.length, by omega, rfl⟩
  go_enter Tryz.func69, Tryz.ntmps69
  go_wp2_with (at_make; refine mkI _ rfl _ _ rfl _ _ _ n rfl rfl (by omega) (by omega) ?_; intro w1 hown hb hs1)
  all_goals
    clear hs1
    go_loopw [9, 10] (fun s i wr => ∃ (j : Nat) (ov : Option Addr) (cv : Nat), j ≤ zs.length ∧ i = .int .i64 ((j : Int) - 1) ∧ s = .slice ov n cv ∧ OwI wr w.heap.size (.slice ov n cv) (horn m n fs (zs.drop j)) ∧ Below w.heap.size w wr) (fun _ i _ => ((intOf i) + 1).toNat)
    case atStart => first | exact ⟨zs.length, _, _, Nat.le_refl _, (by rw [hzz]; try (congr 1; omega)), rfl, by rw [List.drop_of_length_le (Nat.le_refl _)]; exact hown, hb⟩ | exact ⟨n, _, _, by omega, rfl, rfl, by rw [List.drop_of_length_le (by omega)]; exact hown, hb⟩ | exact ⟨xs.length, _, _, by omega, rfl, rfl, by rw [List.drop_of_length_le (by omega)]; exact hown, hb⟩
    case round =>
      obtain ⟨j, ov, cv, hj, rfl, rfl, hO, hB⟩ := hrel
      by_cases hlt : 0 < j
      · obtain ⟨k, rfl⟩ : ∃ k, j = k + 1 := ⟨j - 1, by omega⟩
        have ek : (((k + 1 : Nat) : Int)) - 1 = (k : Int) := by omega
        rw [ek]
        clear ek
        have HS := Lib.hid (horn_take (m := m) (n := n) (f := fs) (a := zs) (k := k) (by omega))
        rw [HR.out k (by omega)] at HS
        have HLl := Lib.hid (horn_len m n fs (zs.drop (k + 1)))
        have HRl := Lib.hid (horn_range (m := m) (show 0 < m by omega) (n := n) (f := fs) (cs := zs.drop (k + 1)))
        generalize horn m n fs (zs.drop (k + 1)) = l at hO HS HLl HRl
        have hkx := at0_range (by omega) hx k
        have i0 : (0 : Int) ≤ (k : Int) := by omega
        have i1 : (k : Int) < (xs.length : Int) := by omega
        have i2 : k < xs.length := by omega
        have n0 : 0 < n := h1
        have hBs := hB.size
        go_wp2_with (go_at_call 96; refine (l02Times_c m _ n _ _ l fs _ rfl hO.rd (hu.below hB (Nat.le_refl _)) h1 hn hm (by omega) HRl.out hf).mono ?_; rintro e w2 ⟨vt, rfl, how, hb2⟩; obtain ⟨ot, ct, rfl⟩ := how.shapeN (n := n) (timesL_len _ _ _ _))
        obtain ⟨g, rfl, hgl, hgl'⟩ := how.row h1
        have B2 := hB.trans (hb2.mono hBs)
        have cx := (hv.below B2 (Nat.le_refl _)).cell0 (some_at0 i2)
        have hT := at0_range (by omega) (timesL_range (m := m) (by omega) (n := n) (a := l) (b := fs)) 0
        have hc0 := how.cell (k := 0) (some_at0 (by rw [timesL_len]; omega))
        have hf0 := how.fz 0
        have hMod := mod_lt' (a := at0 (timesL m n l fs) 0 + at0 xs k) (show 0 < m by omega)
        have Hn := Lib.hid how
        clear how
        go_wp2_with fail
        have e1 : IntKind.i64.wrap (at0 (timesL m n l fs) 0 + at0 xs k) = at0 (timesL m n l fs) 0 + at0 xs k := IntWalk.i64_in _ (by omega)
        have e2 : (at0 (timesL m n l fs) 0 + at0 xs k).tmod m = (at0 (timesL m n l fs) 0 + at0 xs k) % m := Int.tmod_eq_emod_of_nonneg (by omega)
        go_still_tail 12, (by kernel_rfl)
        change wpList _ _ _ _ _ w2.drew
        go_wp2
        have h2 := OwI.put Hn.out 0 ((at0 (timesL m n l fs) 0 + at0 xs k) % m)
        rw [show (timesL m n l fs).set 0 ((at0 (timesL m n l fs) 0 + at0 xs k) % m) = addc m (at0 xs k) (timesL m n l fs) from rfl, ← HS.out] at h2
        exact ⟨⟨k, _, _, by omega, by go_num, rfl, h2.mono hBs, (below_put B2 (by omega) _).drew⟩, by simp [intOf]⟩
      · obtain rfl : j = 0 := by omega
        rw [List.drop_zero] at hO
        go_wp2
        go_ret
        exact ⟨_, rfl, hO, hB⟩

end Go.Proofs.YteijannfbafdpaaGreatDoor

/- Inverses, reversions and integrals of series: the reference's functions, and the program's integral. -/
set_option linter.unusedSimpArgs false
set_option linter.unusedVariables false
namespace Go.Proofs.YteijannfbafdpaaGreatDoor
open Go.RowKit

set_option maxHeartbeats 4000000 in
set_option maxRecDepth 100000 in
theorem l02Reverse_c (m d : Int) (n : Nat) (v : Value) (xs : List Int) (w : World) (hd : d + 1 = (n : Int)) (hv : RdI w v xs) (hl : xs.length = n) (h1 : 2 ≤ n) (hn : n ≤ 1000) (hm : 2 ≤ m) (hm' : m ≤ 10000) (hx : ∀ x ∈ xs, 0 ≤ x ∧ x < m) :
    Calls Tryz.prog 41 #[.int .i64 m, v, .int .i64 d] w fun e w' => ∃ v', e = .returned v' ∧ OwI w' w.heap.size v' (revL m n xs) ∧ Below w.heap.size w w' := by
  subst hl
  obtain ⟨o, c, rfl, hmx, -⟩ := id hv
  unfold maxLen at hmx
  obtain ⟨bx, fx, rfl, hcx⟩ := hv.cells (by omega)
  have cx : w.cell? ⟨bx, fx + 1, none⟩ = some (.int .i64 (at0 xs 1)) := hcx 1 _ (some_at0 (by omega))
  have lx := cell_lt cx
  have hxr := at0_range (by omega) hx 1
  obtain ⟨u, hu⟩ : ∃ u, u = invM m (at0 xs 1) := ⟨_, rfl⟩
  have hur : 0 ≤ u ∧ u < m := by rw [hu]; exact invM_range (by omega) _
  have HU := Lib.hid hu
  clear hcx hu
  have i1 : (1 : Int) < (xs.length : Int) := by omega
  have i2 : 1 < xs.length := by omega
  go_enter Tryz.func41, Tryz.ntmps41
  go_wp2_with (first | (at_make; go_loud (refine mkI _ rfl _ _ rfl _ _ _ xs.length rfl rfl rfl (by omega) ?_; intro w1 hown hb hs1; have cx1 := keep_cell hb (Nat.le_refl _) cx; have hc0 := hown.cell (k := 1) (rep_get xs.length 1 0 (by omega)); have hf0 := hown.fz 1; have Hown := Lib.hid hown; clear hown; have Hs1 := Lib.hid hs1; clear hs1)) | (go_at_call 68; refine (l01Inv_c m (at0 xs 1) _ hm (by omega) (by omega) (by omega)).mono ?_; rw [← HU.out]; rintro e w' ⟨rfl, rfl⟩))
  have hOz := Hown.out.put 1 u
  have hbz := below_put hb (g := w.heap.size) (k := 1) (Nat.le_refl _) (.int .i64 u)
  rw [HU.out, rep_set1, ← HU.out] at hOz
  clear hc0 hf0 Hown cx1 Hs1 hb
  generalize w1.setCell ⟨w.heap.size, 1, none⟩ (.int .i64 u) = w2 at hOz hbz ⊢
  go_loopw [9, 10] (fun i _ wr => ∃ k : Nat, k + 2 ≤ xs.length ∧ i = .int .i64 ((k : Int) + 2) ∧ OwI wr w.heap.size (.slice (some ⟨w.heap.size, 0, none⟩) xs.length xs.length) (revTo m xs.length xs (k + 1)) ∧ Below w.heap.size w wr) (fun i _ _ => xs.length - (intOf i).toNat)
  case atStart => exact ⟨0, by omega, by go_num, hOz, hbz⟩
  case round =>
    clear hOz hbz
    obtain ⟨k, hk, rfl, hO, hB⟩ := hrel
    have hBs := hB.size
    by_cases hlt : k + 2 < xs.length
    · have i3 : (0 : Int) ≤ (k : Int) + 2 := by omega
      have i4 : (k : Int) + 2 ≤ d := by omega
      have i5 : (k : Int) + 2 < (xs.length : Int) := by omega
      have i6 : ((k : Int) + 2).toNat = k + 2 := by omega
      have i7 : (k : Int) + 2 < ((k + 3 : Nat) : Int) := by omega
      have HS := Lib.hid (rev_step (m := m) (show 0 < m by omega) (n := xs.length) (k := k) (a := xs) hlt)
      have HN := Lib.hid (show (revTo m xs.length xs (k + 1)).set (k + 2) ((-(at0 (horn m xs.length (revTo m xs.length xs (k + 1)) xs) (k + 2)) * u) % m) = revTo m xs.length xs (k + 1 + 1) by rw [HU.out]; rfl)
      have HLl := Lib.hid (revTo_len m xs.length xs (k + 1))
      have HRl := Lib.hid (revTo_range (m := m) (show 0 < m by omega) xs.length xs (k + 1))
      rw [← HU.out] at HS
      obtain ⟨q, hq⟩ : ∃ q, q = horn m (k + 3) (revTo m xs.length xs (k + 1)) (xs.take (k + 3)) := ⟨_, rfl⟩
      have HQ := Lib.hid hq
      have hql : q.length = k + 3 := by rw [hq]; exact horn_len _ _ _ _
      have hqr : 0 ≤ at0 q (k + 2) ∧ at0 q (k + 2) < m := at0_range (by omega) (by rw [hq]; exact horn_range (by omega)) _
      rw [← hq] at HS
      have HN2 := Lib.hid (show (revTo m xs.length xs (k + 1)).set (k + 2) ((m - at0 q (k + 2)) * u % m) = revTo m xs.length xs (k + 1 + 1) by rw [HS.out]; exact HN.out)
      clear hq HN HS
      have m0 : (m == 0) = false := by simp; omega
      have m1 : ¬ m = 0 := by omega
      have hp := Int.mul_nonneg (show 0 ≤ m - at0 q (k + 2) by omega) hur.1
      have hp2 : (m - at0 q (k + 2)) * u ≤ 10000 * 10000 := Int.mul_le_mul (by omega) (by omega) hur.1 (by omega)
      have e1 : IntKind.i64.wrap (m - at0 q (k + 2)) = m - at0 q (k + 2) := IntWalk.i64_in _ (by omega)
      have e2 : IntKind.i64.wrap ((m - at0 q (k + 2)) * u) = (m - at0 q (k + 2)) * u := IntWalk.i64_in _ (by omega)
      have e3 : ((m - at0 q (k + 2)) * u).tmod m = (m - at0 q (k + 2)) * u % m := Int.tmod_eq_emod_of_nonneg (by omega)
      go_wp2_with (go_at_call 69; refine (l02Compose_c m _ (k + 3) _ _ xs (revTo m xs.length xs (k + 1)) _ (by omega) (hv.below hB (Nat.le_refl _)) hO.rd (by omega) (by omega) (by omega) hm hm' hx HRl.out).mono ?_; rw [← HQ.out]; rintro e w3 ⟨vp, rfl, hop, hb3⟩; obtain ⟨op, cp, rfl⟩ := hop.shapeN (n := k + 3) hql; obtain ⟨gp, rfl, hgp, hgp'⟩ := hop.row (by omega); have hcv := hop.cell (k := k + 2) (some_at0 (show k + 2 < q.length by omega)); have hO3 := hO.below hb3; have hB3 := hB.trans (hb3.mono hBs); have hc9 := hO3.cell (k := k + 2) (some_at0 (show k + 2 < (revTo m xs.length xs (k + 1)).length by rw [HLl.out]; omega)); have hf9 := hO3.fz (k + 2); have Hn := Lib.hid hO3; clear hO3 hop)
      have hOn := Hn.out.put (k + 2) ((m - at0 q (k + 2)) * u % m)
      rw [HN2.out] at hOn
      have hbn := below_put hB3 (g := w.heap.size) (k := k + 2) (Nat.le_refl _) (.int .i64 ((m - at0 q (k + 2)) * u % m))
      exact ⟨⟨k + 1, by omega, by go_num, by first | exact hOn | exact hOn.drewN 1, by first | exact hbn | exact hbn.drew⟩, by simp [intOf]; omega⟩
    · have hk' : xs.length = k + 2 := by omega
      rw [revP_end hk'] at hO
      have i1 : ¬ (k : Int) + 2 ≤ d := by omega
      clear hk'
      go_wp2
      go_ret
      exact ⟨_, rfl, hO, hB⟩

end Go.Proofs.YteijannfbafdpaaGreatDoor
set_option linter.unusedSimpArgs false
set_option linter.unusedVariables false
namespace Go.Proofs.YteijannfbafdpaaGreatDoor
open Go.RowKit

def numbT (m a : Int) (n : Nat) : List (List Int) := tri n (fun i j => if i = 0 ∧ j = 0 then a % m else 0)
theorem numbT_len (m a : Int) (n : Nat) : (numbT m a n).length = n := tri_len _ _
theorem numbT_ok {m : Int} (hm : 0 < m) (a : Int) (n : Nat) : PlaT m n (numbT m a n) := tri_ok fun i j _ => by
  split
  · exact mod_lt' hm
  · omega
theorem numbT_0 (m : Int) (n : Nat) : numbT m 0 n = zeroT n := tri_ext fun i j _ => by split <;> simp
theorem zeroT_get {n i : Nat} (h : i < n) : (zeroT n)[i]? = some (mk (n - i) (fun _ => 0)) := tri_get h
theorem zeroT_set {n : Nat} (h : 0 < n) (m a : Int) : (zeroT n).set 0 ((mk (n - 0) (fun _ => 0)).set 0 (a % m)) = numbT m a n := tri_set (f := fun _ _ => 0) (by omega)

set_option maxHeartbeats 2000000 in
set_option maxRecDepth 100000 in
theorem number_c (m a : Int) (o : Option Addr) (n c : Nat) (w : World) (h1 : 1 ≤ n) (hn : n ≤ 1000) (hm : 2 ≤ m) (hm' : m ≤ 1000000000000) (ha : -9000000000000000000 ≤ a) (ha' : a ≤ 9000000000000000000) :
    Calls Tryz.prog 89 #[.agg #[.int .i64 m, .slice o n c], .int .i64 a] w fun e w' => PVEnd w w' m (numbT m a n) e := by
  go_enter Tryz.func89, Tryz.ntmps89
  go_wp2_with fail
  (obtain ⟨w0, hw0⟩ : ∃ W : World, W = ((w.alloc (.cells #[.int .i64 m, .slice o n c] 28)).alloc (.cells #[.int .i64 0, .slice none 0 0] 28)) := ⟨_, rfl⟩; have X0 := (RB2.mk1 w  (.int .i64 m) (.slice o n c) 28).1.below (w' := w0) (by rw [hw0]; (repeat (first | exact bR _ _ | (refine bS ?_ _) | (refine bA ?_ _) | (refine bN ?_ _) | (refine bD ?_)))) (Nat.le_refl _); have R0 := (RB2.mk2 w (.cells #[.int .i64 m, .slice o n c] 28) (.int .i64 0) (.slice none 0 0) 28).below (w' := w0) (by rw [hw0]; (repeat (first | exact bR _ _ | (refine bS ?_ _) | (refine bA ?_ _) | (refine bN ?_ _) | (refine bD ?_)))) (Nat.le_refl _); have B0 : Below w.heap.size w w0 := (by rw [hw0]; (repeat (first | exact bR _ _ | (refine bS ?_ _) | (refine bA ?_ _) | (refine bN ?_ _) | (refine bD ?_)))); rw [← hw0]; clear hw0)
  have hzl : w.heap.size + 1 < w0.heap.size := R0.1.lt
  go_cut [5] (fun sb u => ∃ (wz : World) (b : Nat) (oz : Option Addr) (cz : Nat), wz = u ∧ sb = .pointer (some ⟨b, 0, none⟩) ∧ w0.heap.size ≤ b ∧ RB2 u b (.int .i64 m) (.slice oz n cz) ∧ (∃ lo hi, OwSR lo hi u (.slice oz n cz) (zeroT n) ∧ w0.heap.size ≤ lo ∧ (b < lo ∨ hi ≤ b) ∧ hi ≤ u.heap.size) ∧ True ∧ Below w0.heap.size w0 u)
  case first =>
    have hd0 : Below w0.heap.size w0 w0.drew := (Below.refl _ _).drew
    have hsd0 := hd0.size
    have hlb_X0 := X0.lt
    obtain ⟨q0_X0_0, q0_X0_1⟩ := X0.below (Below.refl w0.heap.size w0) (Nat.le_refl _)
    have hne0_X0 : w0.heap.size ≠ w.heap.size := by omega
    go_region_held3 (fun w' => w'.cell? ⟨w.heap.size, 0, none⟩ = some (.int .i64 m) ∧ w'.cell? ⟨w.heap.size, 1, none⟩ = some (.slice o n c)) (go_keep)
      (first
        | (go_at_call 31; refine (degreeP_c m o n c _ (by unfold maxLen; omega)).mono ?_; rintro e wd1 ⟨rfl, hbd1⟩; have hd1 : Below w0.heap.size w0 wd1 := (by (repeat (first | exact bR _ _ | (refine bS ?_ _) | (refine bA ?_ _) | (refine bN ?_ _) | (refine bD ?_) | (refine bT ?_ hbd1)))); have hsd1 := hd1.size; have hsz1_ := hbd1.size; (try simp at hsz1_); obtain ⟨q1_X0_0, q1_X0_1⟩ := X0.below hd1 (Nat.le_refl _); have hne1_X0 : wd1.heap.size ≠ w.heap.size := (by omega); (try (have RZ := RZ.below hbd1 (Nat.le_refl _))); (try (have RZ := (show RB2 (w0.alloc (.cells #[.int .i64 0, .slice none 0 0] 28)).drew w0.heap.size (.int .i64 0) (.slice none 0 0) from RB2.mk1 w0 (.int .i64 0) (.slice none 0 0) _).below hbd1 (Nat.le_refl _))); (try (obtain ⟨⟨z1_0, z1_1⟩, zf1⟩ := id RZ)))
        | (go_at_call 111; refine (emptyPlane_c m ((n : Int) - 1) n _ rfl hn).mono ?_; rintro e wd2 ⟨vz2, rfl, hod2, hbd2⟩; obtain ⟨oz, cz, rfl⟩ := hod2.shapeN (n := n) (zeroT_len n); have hd2 : Below w0.heap.size w0 wd2 := (by (repeat (first | exact bR _ _ | (refine bS ?_ _) | (refine bA ?_ _) | (refine bN ?_ _) | (refine bD ?_) | (refine bT ?_ hbd1) | (refine bT ?_ hbd2)))); have hsd2 := hd2.size; have hsz2_ := hbd2.size; (try simp at hsz2_); obtain ⟨q2_X0_0, q2_X0_1⟩ := X0.below hd2 (Nat.le_refl _); have hne2_X0 : wd2.heap.size ≠ w.heap.size := (by omega); (try (have RZ := RZ.below hbd2 (Nat.le_refl _))); (try (have RZ := (show RB2 (wd1.alloc (.cells #[.int .i64 0, .slice none 0 0] 28)) wd1.heap.size (.int .i64 0) (.slice none 0 0) from RB2.mk1 wd1 (.int .i64 0) (.slice none 0 0) _).below hbd2 (Nat.le_refl _))); (try (obtain ⟨⟨z2_0, z2_1⟩, zf2⟩ := id RZ))))
    all_goals
      go_wp2_with fail
      go_meet
      refine ⟨_, _, oz, cz, rfl, rfl, ?_, ?_, ?_, ?_, ?_⟩
      · first | omega | (simp; done) | (simp; omega)
      · first | exact RB2.mk1 _ _ _ _ | exact RB2.put RZ _ _
      · first | exact ⟨_, _, hod2.ra _, (by first | (simp; done) | (simp; omega) | omega), .inr (Nat.le_refl _), (by first | (simp; done) | (simp; omega) | omega)⟩ | exact ⟨_, _, hod2.rp2 (by first | (simp; done) | (simp; omega) | omega) _ _, (by first | (simp; done) | (simp; omega) | omega), .inl (by first | (simp; done) | (simp; omega) | omega), (by first | (simp; done) | (simp; omega) | omega)⟩
      · trivial
      · (repeat (first | exact bR _ _ | (refine bS ?_ _) | (refine bA ?_ _) | (refine bN ?_ _) | (refine bD ?_) | (refine bT ?_ hbd1) | (refine bT ?_ hbd2)))
  case rest =>
  obtain ⟨w1, b, oz, cz, rfl, rfl, hbW, O, how, hneb, hb⟩ := hcut
  (have X1 := X0.below hb (Nat.le_refl _); have R1 := R0.below hb (Nat.le_refl _); have B1 := B0.trans (hb.mono B0.size))
  obtain ⟨lo, hi, how, hlo, hbo, hhi⟩ := how
  obtain ⟨us, how⟩ := how.named
  obtain ⟨g, rfl, hgl, hgl'⟩ := how.row h1
  obtain ⟨o1, c1, hu1, cx1, how1, hbl1, hset1⟩ := how.at (zeroT_get (show 0 < n by omega))
  rw [mk_len] at cx1 how1 hbl1 hset1 hu1
  obtain ⟨gr, rfl, hgr1, hgr2⟩ := how1.row (by omega)
  have hgr3 := hbl1 gr rfl
  have hc0 := how1.cell (k := 0) (mk_get (show 0 < n - 0 by omega))
  have hf0 := how1.fz 0
  have Hn := Lib.hid how1
  have HS := Lib.hid hset1
  clear how1 hset1 hbl1 hu1
  have B1s := B1.size
  have hlB : w.heap.size + 1 < lo := by omega
  obtain ⟨x0, x1⟩ := id X1
  obtain ⟨⟨z0, z1⟩, zf⟩ := id O
  have i1 : (0 : Int) < ((n - 0 : Nat) : Int) := by omega
  have i2 : (0 : Int) < (n : Int) := by omega
  have i3 : 0 < n := by omega
  go_wp2_with fail
  go_still_tail 9, (by kernel_rfl)
  still_call (stillC (mod_c _ _ _ (by omega) (by omega) (by omega) (by omega)))
  repeat still_step
  refine wpStill_nil ?_
  change wpList _ _ _ _ _ w1.drew
  have hg0 := gr_put (World.grownBy.refl w1 (some gr)) 0 (.int .i64 (a % m))
  have hO := HS.out _ _ (by rw [List.length_set, mk_len]) hg0 (Hn.out.put 0 (a % m))
  rw [zeroT_set h1] at hO
  have hC := (Chg.refl lo hi w1).grown hg0 hgr3.1 hgr3.2.1
  obtain ⟨⟨p0, p1⟩, pf⟩ := O.chg hC hbo
  obtain ⟨⟨r0, r1⟩, rf⟩ := R1.chg hC (.inl hlB)
  have Br := hC.below B1 (by omega) B1s
  clear cx1 x0 x1 z0 z1 zf
  go_wp2
  refine bodyPost_ret (v := .agg #[.int .i64 m, .slice (some ⟨g, 0, none⟩) n cz]) (by simp [results, Tryz.results89, go_sem, r0, r1]) rfl ⟨_, rfl, ?_, ?_⟩
  · exact ((hO.r.ow.low hlB _).low hlB _).mono (by omega)
  · (repeat (first | exact bR _ _ | (refine bS ?_ _) | (refine bA ?_ _) | (refine bN ?_ _) | (refine bD ?_) | (refine bT ?_ B1)))

end Go.Proofs.YteijannfbafdpaaGreatDoor
set_option linter.unusedSimpArgs false
set_option linter.unusedVariables false
namespace Go.Proofs.YteijannfbafdpaaGreatDoor
open Go.RowKit

def RdM (w : World) (v : Value) (l : List (Int × List Int)) : Prop :=
  ∃ o c, v = .slice o l.length c ∧ (l.length ≤ maxLen ∧ l.length ≤ c ∧ (o = none → c = 0)) ∧
    (∀ (k : Nat) (p : Int × List Int), l[k]? = some p → ∃ b off u, o = some ⟨b, off, none⟩ ∧ w.cell? ⟨b, off + k * 2, none⟩ = some (.int .i64 p.1) ∧ w.cell? ⟨b, off + k * 2 + 1, none⟩ = some u ∧ RdI w u p.2)
theorem RdM.below {B : Nat} {w w' : World} {v : Value} {l : List (Int × List Int)} (h : RdM w v l) (hb : Below B w w') (hB : w.heap.size ≤ B) : RdM w' v l := by
  obtain ⟨o, c, rfl, hm, hc⟩ := h
  refine ⟨o, c, rfl, hm, fun k row hx => ?_⟩
  obtain ⟨b, off, u, ho, h0, h1, hr⟩ := hc k row hx
  exact ⟨b, off, u, ho, keep_cell hb hB h0, keep_cell hb hB h1, hr.below hb hB⟩
theorem RdM.len {w : World} {o : Option Addr} {n c : Nat} {l : List (Int × List Int)} (h : RdM w (.slice o n c) l) : n = l.length ∧ l.length ≤ maxLen ∧ l.length ≤ c := by
  obtain ⟨o', c', heq, hm, hc⟩ := h
  obtain ⟨rfl, rfl, rfl⟩ : o = o' ∧ n = l.length ∧ c = c' := by simpa using heq
  exact ⟨rfl, hm.1, hm.2.1⟩
theorem RdM.base {w : World} {o : Option Addr} {n c : Nat} {l : List (Int × List Int)} (h : RdM w (.slice o n c) l) (hx : 1 ≤ l.length) : ∃ b off, o = some ⟨b, off, none⟩ := by
  obtain ⟨o', c', heq, hm, hc⟩ := h
  obtain ⟨rfl, rfl, rfl⟩ : o = o' ∧ n = l.length ∧ c = c' := by simpa using heq
  obtain ⟨b, off, u, ho, -⟩ := hc 0 l[0] (by simp)
  exact ⟨b, off, ho⟩
theorem RdM.at {w : World} {b off n c : Nat} {l : List (Int × List Int)} (h : RdM w (.slice (some ⟨b, off, none⟩) n c) l) {k : Nat} (hk : k < l.length) :
    ∃ o c, w.cell? ⟨b, off + k * 2, none⟩ = some (.int .i64 l[k].1) ∧ w.cell? ⟨b, off + k * 2 + 1, none⟩ = some (.slice o l[k].2.length c) ∧ RdI w (.slice o l[k].2.length c) l[k].2 := by
  obtain ⟨o', c', heq, hm, hc⟩ := h
  obtain ⟨rfl, -, -⟩ : some ⟨b, off, none⟩ = o' ∧ n = l.length ∧ c = c' := by simpa using heq
  obtain ⟨b', off', u, ho, h0, h1, h2⟩ := hc k l[k] (by simp [hk])
  obtain ⟨rfl, rfl⟩ : b = b' ∧ off = off' := by simpa using ho
  obtain ⟨o, c, he, -, -⟩ := id h2
  rw [he] at h1 h2
  exact ⟨o, c, h0, h1, h2⟩
theorem RdM.lit1 (w : World) (m : Int) (u : Value) (xs : List Int) (hu : RdI w u xs) : RdM (w.alloc (.cells #[.int .i64 m, u] 57)) (.slice (some ⟨w.heap.size, 0, none⟩) 1 1) [(m, xs)] := by
  have hb : Below w.heap.size w (w.alloc (.cells #[.int .i64 m, u] 57)) := (Below.refl _ _).alloc (Nat.le_refl _) _
  refine ⟨_, _, rfl, ⟨by simp [maxLen], by simp, fun h => by cases h⟩, fun k p hk => ?_⟩
  have : k = 0 := by have := (List.getElem?_eq_some_iff.1 hk).1; simp at this; omega
  subst this
  simp at hk
  subst hk
  exact ⟨_, 0, u, rfl, by simp, by simp, hu.below hb (Nat.le_refl _)⟩
end Go.Proofs.YteijannfbafdpaaGreatDoor
set_option linter.unusedSimpArgs false
set_option linter.unusedVariables false
namespace Go.Proofs.YteijannfbafdpaaGreatDoor
open Go.RowKit

theorem addcT_plus {m : Int} (hm : 0 < m) {n : Nat} {t : List (List Int)} (ht : PlaT m n t) (c : Int) :
    tri n (fun i j => (atT t i j + atT (numbT m c n) i j) % m) = addcT m c n t := tri_ext fun i j h => by
  unfold numbT
  rw [atT_tri h]
  by_cases e : i = 0 ∧ j = 0
  · rw [if_pos e, if_pos e]
    obtain ⟨rfl, rfl⟩ := e
    rw [Int.add_emod, Int.emod_emod_of_dvd _ (Int.dvd_refl m), ← Int.add_emod]
  · rw [if_neg e, if_neg e, Int.add_zero]
    obtain ⟨-, -, -, -, h1, h2⟩ := ht.at h
    exact Int.emod_eq_of_lt h1 h2
theorem addcT_set {m : Int} {n : Nat} {t : List (List Int)} (hn : 0 < n) (ht : PlaT m n t) (c : Int) {row : List Int} (hr : t[0]? = some row) : t.set 0 (row.set 0 ((atT t 0 0 + c) % m)) = addcT m c n t := by
  have e : t = tri n (atT t) := tri_eq ht.1 (fun i hi => by rw [(ht.2 i hi).1, ht.1])
  have e2 : row = mk (n - 0) (atT t 0) := by
    rw [e, tri_get hn] at hr
    exact (Option.some.inj hr).symm
  have key : (tri n (atT t)).set 0 ((mk (n - 0) (atT t 0)).set 0 ((atT t 0 0 + c) % m)) = addcT m c n t := by
    rw [tri_set (f := atT t) (by omega)]; rfl
  rw [← e] at key
  rw [e2]
  exact key

set_option maxHeartbeats 4000000 in
set_option maxRecDepth 100000 in
theorem l03After_c (m : Int) (n : Nat) (v u : Value) (xs : List Int) (yss : List (List Int)) (w : World) (hv : RdI w v xs) (hu : RdT w u yss) (h1 : 1 ≤ n) (hn : n ≤ 1000) (hm : 2 ≤ m) (hm' : m ≤ 3000000000)
    (hxl : xs.length ≤ 1048576) (hx : ∀ x ∈ xs, 0 ≤ x ∧ x < m) (hy : PlaT m n yss) :
    Calls Tryz.prog 42 #[.int .i64 m, v, u] w fun e w' => ∃ v', e = .returned v' ∧ OwS w' w.heap.size v' (hornT m n yss xs) ∧ Below w.heap.size w w' := by
  obtain ⟨o, c, rfl, hmx, -⟩ := id hv
  obtain ⟨o', c', rfl, hmy, -⟩ := id hu
  have HY := Lib.hid hy
  have hu' : RdT w (.slice o' n c') yss := by rw [hy.1] at hu; exact hu
  rw [hy.1] at hmy ⊢
  unfold maxLen at hmx hmy
  clear hu hy
  have m0 : (m == 0) = false := by simp; omega
  have m1 : ¬ m = 0 := by omega
  go_enter Tryz.func42, Tryz.ntmps42
  go_wp2_with (go_at_call 44; refine (l03Zero_c ((n : Int) - 1) n _ rfl hn).mono ?_; rintro e w2 ⟨vz, rfl, how, B2⟩; obtain ⟨oz, cz, rfl⟩ := how.shapeN (n := n) (zeroT_len n))
  go_loopw [7, 8, 9] (fun s i _ wr => ∃ (j : Nat) (ov : Option Addr) (cv : Nat), j ≤ xs.length ∧ i = .int .i64 ((j : Int) - 1) ∧ s = .slice ov n cv ∧ OwS wr w.heap.size (.slice ov n cv) (hornT m n yss (xs.drop j)) ∧ Below w.heap.size w wr) (fun _ i _ _ => ((intOf i) + 1).toNat)
  case atStart => exact ⟨xs.length, oz, cz, Nat.le_refl _, rfl, rfl, by rw [List.drop_length]; exact how, B2⟩
  case round =>
    obtain ⟨j, ov, cv, hj, rfl, rfl, hO, hB⟩ := hrel
    have hBs := hB.size
    by_cases hlt : 0 < j
    · obtain ⟨k, rfl⟩ : ∃ k, j = k + 1 := ⟨j - 1, by omega⟩
      have ek : (((k + 1 : Nat) : Int)) - 1 = (k : Int) := by omega
      rw [ek]
      clear ek
      have HS := Lib.hid (hornT_drop (m := m) (n := n) (t := yss) (some_at0 (show k < xs.length by omega)))
      have HO := Lib.hid (hornT_ok (m := m) (show 0 < m by omega) n yss (xs.drop (k + 1)))
      generalize hornT m n yss (xs.drop (k + 1)) = l at hO HS HO
      have hkx := at0_range (by omega) hx k
      obtain ⟨bx, fx, rfl, -⟩ := hv.cells (by omega)
      have i0 : (0 : Int) ≤ (k : Int) := by omega
      have i1 : (k : Int) < (xs.length : Int) := by omega
      have i2 : (0 : Int) < (n : Int) := by omega
      have i3 : 0 < n := by omega
      have HT := Lib.hid (timesT_ok (m := m) (show 0 < m by omega) n l yss)
      have HTl := Lib.hid (timesT_len m n l yss)
      generalize hTT : timesT m n l yss = T at HS HT HTl
      have hTT2 := Lib.hid hTT
      clear hTT
      go_wp2_with (go_at_call 70; refine (l03Times_c m n _ _ l yss wr hO.rd (hu'.below hB (Nat.le_refl _)) h1 hn hm hm' HO.out HY.out).mono ?_; rw [hTT2.out]; rintro e w3 ⟨v3, rfl, how3, hb3⟩; obtain ⟨o3, c3, rfl⟩ := how3.shapeN (n := n) HTl.out; obtain ⟨us, how3⟩ := how3.toR.named; obtain ⟨g, rfl, hgl, hgl'⟩ := how3.row (by omega); obtain ⟨r0, hr0, hrl, hrj⟩ := HT.out.row i3; obtain ⟨o4, c4, hu4, cx4, how4, hbl4, hset4⟩ := how3.at hr0; rw [hrl] at hu4 cx4 how4 hbl4 hset4; have HR0 := Lib.hid hr0; have HRJ := Lib.hid hrj; have HRL := Lib.hid hrl; clear hr0 hrj hrl; obtain ⟨gr, rfl, hgr1, hgr2⟩ := how4.row (by omega))
      have HX0 := hbl4 gr rfl
      have hc0 := how4.cell (k := 0) (HRJ.out 0 (by omega))
      have hf0 := how4.fz 0
      obtain ⟨-, -, -, -, ht0, ht1⟩ := HT.out.at (i := 0) (j := 0) (by omega)
      have B3 := hB.trans (hb3.mono hBs)
      have cx := (hv.below B3 (Nat.le_refl _)).cell0 (some_at0 (show k < xs.length by omega))
      have i4 : (0 : Int) < ((n - 0 : Nat) : Int) := by omega
      have hMod := mod_lt' (a := atT T 0 0 + at0 xs k) (show 0 < m by omega)
      have hN := Lib.hid how4
      have hS4 := Lib.hid hset4
      clear how4 hset4 hu4
      go_wp2_with fail
      have e1 : IntKind.i64.wrap (atT T 0 0 + at0 xs k) = atT T 0 0 + at0 xs k := IntWalk.i64_in _ (by omega)
      have e2 : (atT T 0 0 + at0 xs k).tmod m = (atT T 0 0 + at0 xs k) % m := Int.tmod_eq_emod_of_nonneg (by omega)
      go_still_tail 12, (by kernel_rfl)
      change wpList _ _ _ _ _ w3.drew
      have hg0 := gr_put (World.grownBy.refl w3 (some gr)) 0 (.int .i64 ((atT T 0 0 + at0 xs k) % m))
      have hOn := hS4.out _ _ (by rw [List.length_set, HRL.out]) hg0 (hN.out.put 0 ((atT T 0 0 + at0 xs k) % m))
      rw [addcT_set i3 HT.out _ HR0.out, ← HS.out] at hOn
      have Bn := below_put B3 (g := gr) (k := 0) (by omega) (.int .i64 ((atT T 0 0 + at0 xs k) % m))
      go_wp2
      exact ⟨⟨k, _, _, by omega, by go_num, rfl, hOn.r.ow.mono hBs, Bn.drew⟩, by simp [intOf]⟩
    · obtain rfl : j = 0 := by omega
      rw [List.drop_zero] at hO
      go_wp2
      go_ret
      exact ⟨_, rfl, hO, hB⟩

end Go.Proofs.YteijannfbafdpaaGreatDoor
