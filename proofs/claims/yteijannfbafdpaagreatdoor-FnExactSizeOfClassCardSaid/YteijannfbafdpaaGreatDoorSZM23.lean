/- Lemmas. -/
import Derived.Test.YteijannfbafdpaaGreatDoorSZM20
import Derived.Test.YteijannfbafdpaaGreatDoorSZSzm
import Derived.Test.YteijannfbafdpaaGreatDoorSZM8
set_option linter.unusedSimpArgs false
set_option linter.unusedVariables false
namespace Go.Proofs.YteijannfbafdpaaGreatDoor
open Go.RowKit

def rowV (w : World) (v : Value) (j : Nat) : Nat := match v with
  | .slice (some a) _ _ => (intOf ((w.cell? ⟨a.block, a.off + j, none⟩).getD (.int .i64 0))).toNat
  | _ => 0
theorem rowV_eq {w : World} {v : Value} {xs : List Int} {j : Nat} (h : RdI w v xs) (hj : j < xs.length) : rowV w v j = (at0 xs j).toNat := by
  obtain ⟨o, c, rfl, -, hc⟩ := h
  obtain ⟨b, off, rfl, hcell⟩ := hc j (at0 xs j) (some_at0 hj)
  unfold rowV
  simp only [hcell, Option.getD_some, intOf]
theorem RdI.empty {w x : World} {v : Value} (h : RdI w v []) : RdI x v [] := by
  obtain ⟨o, c, rfl, hm, -⟩ := h
  exact ⟨o, c, rfl, hm, fun k y hy => by simp at hy⟩
theorem OwS.emptyQ {w : World} {B E g n c : Nat} {S : List Nat} (h : OwS w B (.slice (some ⟨g, 0, none⟩) n c) (List.replicate n [])) : OwQR w E B S g n c (List.replicate n []) := by
  obtain ⟨us, hl, hr, h1, -, -⟩ := h
  rw [List.length_replicate] at hr hl
  refine ⟨by rw [List.length_replicate], us, by rw [List.length_replicate]; exact hl, by rw [List.length_replicate]; exact hr, fun k u row hu hx => ?_⟩
  have : row = [] := by
    rw [List.getElem?_replicate] at hx; split at hx
    · exact (Option.some.inj hx).symm
    · cases hx
  subst this
  exact fun x _ => (h1 k u [] hu hx).rd.empty
structure PvI (m : Int) (L j : Nat) (R : List (List Int)) (i : Nat) (p : List Int) (T : List (List Int)) : Prop where
  pp : p = [] ∨ (Rw m L j p ∧ at0 p j ≠ 0)
  zer : ∀ r ∈ T, r.length = L ∧ (∀ x ∈ r, 0 ≤ x ∧ x < m) ∧ ∀ k, j ≤ k → k + 1 < L → at0 r k = 0
  eq : ∀ y, (pv m L p y ∧ sts m L (T ++ R.drop i) y) ↔ sts m L R y
theorem PvI.start {m : Int} {L j : Nat} {R : List (List Int)} : PvI m L j R 0 [] [] :=
  ⟨.inl rfl, fun r hr => by simp at hr, fun y => by simp [pv]⟩
theorem sts_app {m : Int} {L : Nat} {A B : List (List Int)} {y : Nat → Int} : sts m L (A ++ B) y ↔ sts m L A y ∧ sts m L B y := by
  constructor
  · exact fun h => ⟨fun r hr => h r (List.mem_append_left _ hr), fun r hr => h r (List.mem_append_right _ hr)⟩
  · rintro ⟨h1, h2⟩ r hr
    rcases List.mem_append.1 hr with hr | hr
    · exact h1 r hr
    · exact h2 r hr
theorem sts_one {m : Int} {L : Nat} {r : List Int} {y : Nat → Int} : sts m L [r] y ↔ dt L r y % m = 0 :=
  ⟨fun h => h r (List.mem_singleton.2 rfl), fun h r' hr => by rw [List.mem_singleton.1 hr]; exact h⟩
theorem PvI.next {m : Int} {L j i : Nat} {R T : List (List Int)} {p p' r r' : List Int} (hr : R[i]? = some r) (h : PvI m L j R i p T) (hE : Eua m L j p r p' r') (h0 : at0 r' j = 0) : PvI m L j R (i + 1) p' (T ++ [r']) := by
  refine ⟨hE.pp, fun x hx => ?_, fun y => ?_⟩
  · rcases List.mem_append.1 hx with hx | hx
    · exact h.zer x hx
    · obtain rfl := List.mem_singleton.1 hx
      refine ⟨hE.rr.len, hE.rr.rng, fun k k1 k2 => ?_⟩
      rcases Nat.lt_or_ge j k with h' | h'
      · exact hE.rr.zer k h' k2
      · rw [show k = j by omega]; exact h0
  · rw [← h.eq y]
    obtain ⟨hl, he⟩ := List.getElem?_eq_some_iff.1 hr
    have hd : R.drop i = r :: R.drop (i + 1) := by rw [List.drop_eq_getElem_cons hl, he]
    rw [hd, List.append_assoc, sts_app, sts_app, sts_app, show r :: R.drop (i + 1) = [r] ++ R.drop (i + 1) from rfl, sts_app, sts_one, sts_one]
    have e := hE.eq y
    constructor
    · rintro ⟨a, b, c, d⟩
      obtain ⟨a', c'⟩ := e.1 ⟨a, c⟩
      exact ⟨a', b, c', d⟩
    · rintro ⟨a, b, c, d⟩
      obtain ⟨a', c'⟩ := e.2 ⟨a, c⟩
      exact ⟨a', b, c', d⟩
theorem PvI.all {m : Int} {L j : Nat} {R T : List (List Int)} {p : List Int} (h : PvI m L j R R.length p T) : ∀ y, (pv m L p y ∧ sts m L T y) ↔ sts m L R y := fun y => by
  have := h.eq y
  rwa [List.drop_length, List.append_nil] at this
structure ElI (m : Int) (L j : Nat) (R0 R out : List (List Int)) : Prop where
  el : Elim m L j R0 R out
  rows : ∀ r ∈ R, r.length = L ∧ (∀ x ∈ r, 0 ≤ x ∧ x < m) ∧ ∀ k, j ≤ k → k + 1 < L → at0 r k = 0
  emp : ∀ k, k < j → out[k]? = some []
  len : out.length = L - 1
theorem ElI.start {m : Int} {n : Nat} {R : List (List Int)} (h : ∀ r ∈ R, r.length = n + 1 ∧ ∀ x ∈ r, 0 ≤ x ∧ x < m) : ElI m (n + 1) n R R (List.replicate n []) :=
  ⟨Elim.start R _, fun r hr => ⟨(h r hr).1, (h r hr).2, fun k h1 h2 => by omega⟩, fun k hk => by simp [hk], by simp⟩
theorem ElI.rw {m : Int} {L j : Nat} {R0 R out : List (List Int)} (h : ElI m L (j + 1) R0 R out) : ∀ r ∈ R, Rw m L j r := fun r hr => by
  obtain ⟨h1, h2, h3⟩ := h.rows r hr
  exact ⟨h1, h2, fun k k1 k2 => h3 k (by omega) k2⟩
theorem ElI.none {m : Int} {L j : Nat} {R0 R T out : List (List Int)} (hj : j + 1 < L) (h : ElI m L (j + 1) R0 R out) (hp : PvI m L j R R.length [] T) : ElI m L j R0 T out :=
  ⟨h.el.step hj (Stp.none hp.all hp.zer) (h.emp j (by omega)) (fun _ _ => rfl), hp.zer, fun k hk => h.emp k (by omega), h.len⟩
theorem ElI.some {m : Int} {L j : Nat} {R0 R T out : List (List Int)} {p : List Int} (hm : 2 ≤ m) (hj : j + 1 < L) (h : ElI m L (j + 1) R0 R out) (hp : PvI m L j R R.length p T) (hne : p ≠ []) :
    ElI m L j R0 (T ++ [minL m (List.replicate L 0) p (m - m / ((Nat.gcd (at0 p j).toNat m.toNat : Nat) : Int))]) (out.set j p) := by
  rcases hp.pp with e | ⟨h1, h2⟩
  · exact absurd e hne
  have hs := Stp.of hm hj h1 h2 hp.all hp.zer
  refine ⟨h.el.step hj hs ?_ (fun k hk => ?_), hs.zer, fun k hk => ?_, by rw [List.length_set]; exact h.len⟩
  · rw [List.getElem?_set, if_pos rfl, if_pos (by rw [h.len]; omega)]
  · rw [List.getElem?_set, if_neg (by omega)]
  · rw [List.getElem?_set, if_neg (by omega)]; exact h.emp k (by omega)
theorem quo_min {m X Y : Int} (h1 : 0 ≤ X) (h2 : X < m) (h3 : 0 < Y) : 0 ≤ X / Y ∧ X / Y < m := by
  refine ⟨Int.ediv_nonneg h1 (by omega), ?_⟩
  have := Int.ediv_le_self Y h1
  omega
end Go.Proofs.YteijannfbafdpaaGreatDoor
set_option linter.unusedSimpArgs false
set_option linter.unusedVariables false
namespace Go.Proofs.YteijannfbafdpaaGreatDoor
open Go.RowKit

set_option maxHeartbeats 8000000 in
set_option maxRecDepth 100000 in
theorem l07Pivots_c (m : Int) (n E b off c : Nat) (us : List Value) (R0 : List (List Int)) (w : World) (hv : Rds E w.heap.size w (fun x => RdTU us x (.slice (some ⟨b, off, none⟩) R0.length c) R0)) (hE : E ≤ w.heap.size) (hn1 : 1 ≤ n) (hn : n ≤ 10) (hm : 2 ≤ m) (hm' : m ≤ 10000)
    (hR : ∀ r ∈ R0, r.length = n + 1 ∧ ∀ x ∈ r, 0 ≤ x ∧ x < m) (h1 : 1 ≤ R0.length) (hl : R0.length ≤ 1000) :
    Calls Tryz.prog 49 #[.int .i64 m, .slice (some ⟨b, off, none⟩) R0.length c] w fun e w' => ∃ g cg, e = .returned (.slice (some ⟨g, 0, none⟩) n cg) ∧ Hid (∃ us' out, out.length = n ∧ Rds E w'.heap.size w' (fun x => RdTU us' x (.slice (some ⟨g, 0, none⟩) n cg) out) ∧ ∃ R', Elim m (n + 1) 0 R0 R' out) ∧ Below w.heap.size w w' := by
  obtain ⟨r0, hr0⟩ : ∃ r0, R0[0]? = some r0 := ⟨R0[0], by simp⟩
  have hr0l := (hR r0 (List.mem_of_getElem? hr0)).1
  obtain ⟨o0, c0, cx0, -⟩ := hv.now.rd.row hr0
  rw [hr0l] at cx0
  have cx : w.cell? ⟨b, off, none⟩ = some (.slice o0 (n + 1) c0) := by simpa using cx0
  have e00 : IntKind.i64.wrap ((n : Int) + 1 - 1) = (n : Int) := by rw [IntWalk.i64_in _ (by omega)]; omega
  have e01 : IntKind.i64.wrap ((n : Int) - 1) = (n : Int) - 1 := IntWalk.i64_in _ (by omega)
  have i00 : (0 : Int) < (R0.length : Int) := by omega
  have i01 : 0 < R0.length := by omega
  have m0 : (m == 0) = false := by simp; omega
  have m1 : ¬ m = 0 := by omega
  have HI0 := Lib.hid (ElI.start (m := m) hR)
  have HR0 := Lib.hid hR
  clear hR hr0 hr0l cx0
  go_enter Tryz.func49, Tryz.ntmps49
  go_wp2_with (at_make; refine mkT _ rfl _ _ rfl _ _ _ n rfl rfl rfl (by omega) ?_; intro w1 hown hb1 hs1)
  obtain ⟨q, hq⟩ : ∃ q, q = w.heap.size := ⟨_, rfl⟩
  rw [← hq] at hown ⊢
  have OO := hown.emptyQ (E := E) (S := [])
  have RR := ((hv.rdf (S := [q]) (Nat.le_refl _) (by simp; omega)).below hb1)
  have hqE : E ≤ q := by omega
  have hq1 : q < w1.heap.size := by omega
  have hB1 : Below q w w1 := by rw [hq]; exact hb1
  have HQ := Lib.hid hq
  clear hq hs1 hb1 hown hv cx i00 i01 hE
  go_loopw [1, 7] (fun s i wr => ∃ (j b off c : Nat) (us : List Value) (R out : List (List Int)), j ≤ n ∧ i = .int .i64 ((j : Int) - 1) ∧ s = .slice (some ⟨b, off, none⟩) R.length c ∧ R.length + j ≤ 1000 + n ∧ Rdf E [q] wr (fun x => RdTU us x (.slice (some ⟨b, off, none⟩) R.length c) R) ∧ OwQR wr E q [] q n n out ∧ Hid (ElI m (n + 1) j R0 R out) ∧ Below q w wr) (fun _ i _ => (intOf i + 1).toNat)
  case atStart => exact ⟨n, _, _, _, _, _, _, Nat.le_refl _, rfl, rfl, by omega, RR, OO, HI0, hB1⟩
  case round =>
    clear OO RR hB1 hq1
    obtain ⟨jj, b, off, c, us, R, out, hj, rfl, rfl, hRl, RR, OO, HI, hB⟩ := hrel
    obtain ⟨wa, rfl⟩ : ∃ wa : World, wa = wr := ⟨_, rfl⟩
    have hBs := hB.size
    have hqlt := OO.lt
    by_cases hj0 : jj = 0
    · subst hj0
      have i0 : ¬ (0 : Int) ≤ ((0 : Nat) : Int) - 1 := by omega
      obtain ⟨us2, hR2⟩ := OO.fix (S' := []) (by simp) hqE (by simp)
      have hR3 := hR2.rds (by simp)
      have hBw : Below w.heap.size w wa := by rw [← HQ.out]; exact hB
      have hEl := Lib.hid HI.out.el
      have hOl := Lib.hid HI.out.len
      go_wp2
      go_ret
      exact ⟨q, n, rfl, Lib.hid ⟨us2, out, by rw [hOl.out]; omega, hR3, R, hEl.out⟩, hBw⟩
    · obtain ⟨j, rfl⟩ : ∃ j, jj = j + 1 := ⟨jj - 1, by omega⟩
      have i0 : (0 : Int) ≤ (j : Int) := by omega
      have ej : (((j + 1 : Nat) : Int) - 1) = (j : Int) := by omega
      rw [ej]
      have j0 : (j : Int) < (n : Int) + 1 := by omega
      have j1 : j < n + 1 := by omega
      have j2 : (j : Int) < (n : Int) := by omega
      have j3 : j < n := by omega
      go_wp2_with fail
      have hb2 : Below wa.heap.size wa ((wa.alloc (.cells #[] 2)).alloc (.cells #[] 34)) := (by (repeat (first | exact bR _ _ | (refine bS ?_ _) | (refine bA ?_ _) | (refine bN ?_ _) | (refine bD ?_))))
      have hpv : Rdf E [wa.heap.size + 1, q] ((wa.alloc (.cells #[] 2)).alloc (.cells #[] 34)) (fun x => RdI x (.slice (some ⟨wa.heap.size, 0, none⟩) 0 0) []) := fun x _ => ⟨_, _, rfl, ⟨Nat.zero_le _, Nat.zero_le _, fun e => by cases e⟩, fun k y hy => by simp at hy⟩
      have OT := OwQR.lit0 (wa.alloc (.cells #[] 2)) E [q]
      have hz1 : (wa.alloc (.cells #[] 2)).heap.size = wa.heap.size + 1 := by simp
      rw [hz1] at OT
      have OT := OT.mono (show wa.heap.size ≤ wa.heap.size + 1 by omega)
      clear hz1
      generalize (wa.alloc (.cells #[] 2)).alloc (.cells #[] 34) = w2 at hb2 hpv OT ⊢
      go_loopw [8, 9, 10] (fun pvv s i wi => ∃ (k g cr cp : Nat) (op : Option Addr) (p : List Int) (T : List (List Int)), k ≤ R.length ∧ i = .int .i64 k ∧ s = .slice (some ⟨g, 0, none⟩) k cr ∧ pvv = .slice op p.length cp ∧ OwQR wi E wa.heap.size [q] g k cr T ∧ Rdf E [g, q] wi (fun x => RdI x (.slice op p.length cp) p) ∧ Hid (PvI m (n + 1) j R k p T) ∧ Below wa.heap.size wa wi) (fun _ _ i _ => R.length - (intOf i).toNat)
      case atStart => exact ⟨0, _, _, _, _, [], [], Nat.zero_le _, rfl, rfl, rfl, OT, hpv, Lib.hid PvI.start, hb2⟩
      case round =>
        clear OT hpv hb2
        obtain ⟨k, g, cg, cp, op, p, T, hk, rfl, rfl, rfl, OT, hpv, HP, hBi⟩ := hrel
        obtain ⟨wi, rfl⟩ : ∃ wi : World, wi = wr := ⟨_, rfl⟩
        have hBis := hBi.size
        have hglt := OT.lt
        have HTl := Lib.hid OT.len
        by_cases hlt : k < R.length
        · have i1 : (k : Int) < (R.length : Int) := by omega
          have i2 : (0 : Int) ≤ (k : Int) := by omega
          obtain ⟨r, hr⟩ : ∃ r, R[k]? = some r := ⟨R[k], by simp [hlt]⟩
          have hrw := Lib.hid (HI.out.rw r (List.mem_of_getElem? hr))
          have RRi := (RR.more (S' := [g, q]) (by simp; omega)).below hBi
          obtain ⟨o1, c1, cx1, rx1⟩ := RdTU.rowAt RRi hr
          have HRk := Lib.hid hr
          have hEu0 := Lib.hid (Eua.start hrw.out HP.out.pp)
          clear hr
          go_wp2_with fail
          go_loopw [8, 11] (fun pvv rv wk => ∃ (op or' : Option Addr) (cp cr : Nat) (p' r' : List Int), pvv = .slice op p'.length cp ∧ rv = .slice or' r'.length cr ∧ Rdf E [g, q] wk (fun x => RdI x (.slice op p'.length cp) p') ∧ Rdf E [g, q] wk (fun x => RdI x (.slice or' r'.length cr) r') ∧ Hid (Eua m (n + 1) j p r p' r') ∧ Below wi.heap.size wi wk) (fun _ rv wk => rowV wk rv j)
          case atStart => exact ⟨_, _, _, _, _, _, rfl, rfl, hpv, rx1, hEu0, Below.refl _ _⟩
          case round =>
            clear hpv rx1 cx1 hEu0 RRi
            obtain ⟨op, or', cp, cr', p', r', rfl, rfl, hp, hr, HEu, hBk⟩ := hrel
            have hBks := hBk.size
            have hrl := HEu.out.rr.len
            have hrd := hr.now
            have hpd := hp.now
            obtain ⟨br, fr, rfl, -⟩ := hrd.cells (by omega)
            have cr1 := hrd.cell0 (k := j) (some_at0 (by omega))
            have hV := rowV_eq hrd (show j < r'.length by omega)
            have hXr := HEu.out.rr.at (show 0 < m by omega) j
            rw [hrl] at hr hrd hV ⊢
            have HRl := Lib.hid hrl
            have HV := Lib.hid hV
            clear hrl hV
            by_cases hx0 : at0 r' j = 0
            · have c0 : (at0 r' j != 0) = false := by simp [hx0]
              have HN := Lib.hid (HP.out.next HRk.out HEu.out hx0)
              have hpm := hp
              generalize at0 r' j = X at cr1 hXr c0
              clear hx0
              go_wp2_with (at_builtin; obtain ⟨W, hW⟩ : ∃ W : World, W = wr.alloc (.cells #[.slice (some ⟨br, fr, none⟩) (n + 1) cr'] 34) := ⟨_, rfl⟩; have hWb1 : Below wr.heap.size wr W := (by rw [hW]; exact (by (repeat (first | exact bR _ _ | (refine bS ?_ _) | (refine bA ?_ _) | (refine bN ?_ _) | (refine bD ?_))))); have hWb : Below wi.heap.size wi W := hBk.trans (hWb1.mono hBks); have hWz := hWb.size; have hC : W.cell? ⟨wr.heap.size, 0, none⟩ = some (.slice (some ⟨br, fr, none⟩) (n + 1) cr') := (by rw [hW]; simp); rw [← hW]; have HW := Lib.hid hW; clear hW; go_loud (refine apQR W rfl _ _ rfl E wa.heap.size [q] g k cg T rfl (OT.below hWb) (by omega) _ r' wr.heap.size rfl hC rfl (hr.below hWb1) (by rw [← HTl.out]; omega) ?_; intro g2 c2 w4 hO4 hgr hb4 hg4))
              have hp4 := (hp.below hWb1).grown hgr (S' := [g2, q]) (by simp) (by intro s hs; simp at hs; rcases hs with rfl | rfl; (rcases hg4 with h | h; exact .inl (by rw [h]; simp); exact .inr (.inl (by omega))); exact .inl (by simp))
              have hB4 := (hBi.trans (hWb.mono hBis)).trans hb4
              exact ⟨⟨k + 1, g2, c2, cp, op, p', T ++ [r'], by omega, by go_num, rfl, rfl, hO4, hp4, HN, hB4⟩, by simp [intOf]; omega⟩
            · have c0 : (at0 r' j != 0) = true := by simpa using hx0
              by_cases hpn : p' = []
              · subst hpn
                have HF := Lib.hid (HEu.out.first (by omega) (by omega) hx0)
                generalize hXe : at0 r' j = X at cr1 hXr c0 hx0
                have HXe := Lib.hid hXe
                clear hXe
                go_wp2_with (at_make; go_loud (refine mkI _ rfl _ _ rfl _ _ _ (n + 1) rfl rfl rfl (by omega) ?_; intro w3 hown hb3 hs3))
                have hz3 : wr.heap.size < w3.heap.size := by omega
                have hrr : Rdf E [g, q] w3 (fun x => RdI x (.slice (some ⟨wr.heap.size, 0, none⟩) (n + 1) (n + 1)) (List.replicate (n + 1) 0)) := hown.rdf (by omega) (by omega) (by simp; omega)
                have hVz := rowV_eq hown.rd (show j < (List.replicate (n + 1) (0 : Int)).length by simp; omega)
                have hr3 := hr.below hb3
                exact ⟨⟨_, _, _, _, r', List.replicate (n + 1) 0, by rw [HRl.out], by rw [List.length_replicate], by rw [HRl.out]; exact hr3, by rw [List.length_replicate]; exact hrr, HF, hBk.trans (hb3.mono hBks)⟩, by rw [hVz, HV.out, HXe.out, at0_rep]; omega⟩
              · have hpp := HEu.out.pp.resolve_left hpn
                have hpl := hpp.1.len
                obtain ⟨bp, fp, rfl, -⟩ := hpd.cells (by omega)
                have cp1 := hpd.cell0 (k := j) (some_at0 (by omega))
                have hYr := hpp.1.at (show 0 < m by omega) j
                have hy0 := hpp.2
                rw [hpl] at hp hpd ⊢
                have HPl := Lib.hid hpl
                have HPr := Lib.hid hpp.1
                clear hpl hpp
                have HRr := Lib.hid HEu.out.rr
                generalize hXe : at0 r' j = X at cr1 hXr c0 hx0
                generalize hYe : at0 p' j = Y at cp1 hYr hy0
                have HXe := Lib.hid hXe
                have HYe := Lib.hid hYe
                clear hXe hYe
                have hpl0 : ((n : Int) + 1 == 0) = false := by simp; omega
                go_wp2_with fail
                go_quiet (fail)
                obtain ⟨wq, hwq⟩ : ∃ wq, wq = wr.drewN nq := ⟨_, rfl⟩
                have hbq : Below wr.heap.size wr wq := by rw [hwq]; exact (by (repeat (first | exact bR _ _ | (refine bS ?_ _) | (refine bA ?_ _) | (refine bN ?_ _) | (refine bD ?_))))
                rw [← hwq]
                have hbqs := hbq.size
                have hrdq := hrd.below hbq (Nat.le_refl _)
                have hpdq := hpd.below hbq (Nat.le_refl _)
                have cr2 := keep_cell hbq (Nat.le_refl _) cr1
                have cp2 := keep_cell hbq (Nat.le_refl _) cp1
                clear hwq cr1 cp1
                by_cases hXY : X < Y
                · skip
                  have hQT := quo_min (m := m) hYr.1 hYr.2 (show 0 < X by omega)
                  have e2 : Y.tdiv X = Y / X := Int.tdiv_eq_ediv_of_nonneg hYr.1
                  have z0 : (X == 0) = false := by simp; omega
                  have z1 : ¬ X = 0 := by omega
                  have HS := Lib.hid ((HEu.out.swap (by omega) hpn (by rw [HXe.out]; exact z1)).sub (by omega) (HEu.out.rr.ne (by omega)) (Y / X))
                  have HM := Lib.hid (show at0 (minL m p' r' (Y / X)) j = Y % X by
                    have := minL_div (m := m) (p := r') (r := p') (j := j) (by rw [HPl.out]; omega) (by rw [HXe.out]; omega) (by rw [HYe.out]; omega) (by rw [HXe.out]; omega) (by rw [HYe.out]; omega)
                    rwa [HXe.out, HYe.out] at this)
                  have hmr : 0 ≤ Y % X ∧ Y % X < X := ⟨Int.emod_nonneg _ z1, Int.emod_lt_of_pos _ (by omega)⟩
                  have e3 : IntKind.i64.wrap (Y / X) = Y / X := IntWalk.i64_in _ (by omega)
                  generalize Y / X = QT at hQT e2 e3 HS HM
                  go_wp2_with fail
                  have hd0 : Below wq.heap.size wq wq.drew := (Below.refl _ _).drew
                  have hsd0 := hd0.size
                  refine wp_region_K (S := fun w' => w'.cell? ⟨br, fr + j, none⟩ = some (.int .i64 X) ∧ w'.cell? ⟨bp, fp + j, none⟩ = some (.int .i64 Y)) [12, 13] (by kernel_rfl) ?_
                  have hHeld : (fun w' : World => w'.cell? ⟨br, fr + j, none⟩ = some (.int .i64 X) ∧ w'.cell? ⟨bp, fp + j, none⟩ = some (.int .i64 Y)) wq.drew := by go_keep
                  refine' wpAnyK_takeL (i := 0) (v := _) rfl (by kernel_rfl) (by kernel_rfl) (by kernel_rfl) (by kernel_rfl) (fun _ _ _ h => h) (Or.inl ⟨by rfl, ?yT1⟩) hHeld ?rT1
                  case yT1 => (intro w' hSw; (try dsimp only at hSw); go_simp; try with_reducible rfl)
                  try simp only [List.getElem_toArray, List.getElem_cons_zero, List.getElem_cons_succ, Act.put, List.setIfInBounds_toArray, List.set_cons_zero, List.set_cons_succ]
                  refine' wpAnyK_takeL (i := 1) (v := _) rfl (by kernel_rfl) (by kernel_rfl) (by kernel_rfl) (by kernel_rfl) (fun _ _ _ h => h) (Or.inl ⟨by rfl, ?yT2⟩) hHeld ?rT2
                  case yT2 => (intro w' hSw; (try dsimp only at hSw); go_simp; try with_reducible rfl)
                  try simp only [List.getElem_toArray, List.getElem_cons_zero, List.getElem_cons_succ, Act.put, List.setIfInBounds_toArray, List.set_cons_zero, List.set_cons_succ]
                  refine' wpAnyK_takeL (i := 2) (v := _) rfl (by kernel_rfl) (by kernel_rfl) (by kernel_rfl) (by kernel_rfl) (fun _ _ _ h => h) (Or.inl ⟨by rfl, ?yT3⟩) hHeld ?rT3
                  case yT3 => (intro w' hSw; (try dsimp only at hSw); go_simp; try with_reducible rfl)
                  try simp only [List.getElem_toArray, List.getElem_cons_zero, List.getElem_cons_succ, Act.put, List.setIfInBounds_toArray, List.set_cons_zero, List.set_cons_succ]
                  refine' wpAnyK_takeL (i := 3) (v := _) rfl (by kernel_rfl) (by kernel_rfl) (by kernel_rfl) (by kernel_rfl) (fun _ _ _ h => h) (Or.inl ⟨by rfl, ?yT4⟩) hHeld ?rT4
                  case yT4 => (intro w' hSw; (try dsimp only at hSw); go_simp; try with_reducible rfl)
                  try simp only [List.getElem_toArray, List.getElem_cons_zero, List.getElem_cons_succ, Act.put, List.setIfInBounds_toArray, List.set_cons_zero, List.set_cons_succ]
                  refine' wpAnyK_takeL (i := 4) (v := _) rfl (by kernel_rfl) (by kernel_rfl) (by kernel_rfl) (by kernel_rfl) (fun _ _ _ h => h) (Or.inl ⟨by rfl, ?yT5⟩) hHeld ?rT5
                  case yT5 => (intro w' hSw; (try dsimp only at hSw); go_simp; try with_reducible rfl)
                  try simp only [List.getElem_toArray, List.getElem_cons_zero, List.getElem_cons_succ, Act.put, List.setIfInBounds_toArray, List.set_cons_zero, List.set_cons_succ]
                  refine' wpAnyK_takeL (i := 5) (v := _) rfl (by kernel_rfl) (by kernel_rfl) (by kernel_rfl) (by kernel_rfl) (fun _ _ _ h => h) (Or.inl ⟨by rfl, ?yT6⟩) hHeld ?rT6
                  case yT6 => (intro w' hSw; (try dsimp only at hSw); go_simp; try with_reducible rfl)
                  try simp only [List.getElem_toArray, List.getElem_cons_zero, List.getElem_cons_succ, Act.put, List.setIfInBounds_toArray, List.set_cons_zero, List.set_cons_succ]
                  refine' wpAnyK_takeL (i := 6) (v := _) rfl (by kernel_rfl) (by kernel_rfl) (by kernel_rfl) (by kernel_rfl) (fun _ _ _ h => h) (Or.inl ⟨by rfl, ?yT7⟩) hHeld ?rT7
                  case yT7 => (intro w' hSw; (try dsimp only at hSw); go_simp; try with_reducible rfl)
                  try simp only [List.getElem_toArray, List.getElem_cons_zero, List.getElem_cons_succ, Act.put, List.setIfInBounds_toArray, List.set_cons_zero, List.set_cons_succ]
                  refine' wpAnyK_takeL (i := 7) (v := _) rfl (by kernel_rfl) (by kernel_rfl) (by kernel_rfl) (by kernel_rfl) (fun _ _ _ h => h) (Or.inl ⟨by rfl, ?yT8⟩) hHeld ?rT8
                  case yT8 => (intro w' hSw; (try dsimp only at hSw); go_simp; try with_reducible rfl)
                  try simp only [List.getElem_toArray, List.getElem_cons_zero, List.getElem_cons_succ, Act.put, List.setIfInBounds_toArray, List.set_cons_zero, List.set_cons_succ]
                  refine' wpAnyK_takeL (i := 8) (v := _) rfl (by kernel_rfl) (by kernel_rfl) (by kernel_rfl) (by kernel_rfl) (fun _ _ _ h => h) (Or.inl ⟨by rfl, ?yT9⟩) hHeld ?rT9
                  case yT9 => (intro w' hSw; (try dsimp only at hSw); go_simp; try with_reducible rfl)
                  try simp only [List.getElem_toArray, List.getElem_cons_zero, List.getElem_cons_succ, Act.put, List.setIfInBounds_toArray, List.set_cons_zero, List.set_cons_succ]
                  refine' wpAnyK_takeL (i := 9) (v := _) rfl (by kernel_rfl) (by kernel_rfl) (by kernel_rfl) (by kernel_rfl) (fun _ _ _ h => h) (Or.inl ⟨by rfl, ?yT10⟩) hHeld ?rT10
                  case yT10 => (intro w' hSw; (try dsimp only at hSw); go_simp; try with_reducible rfl)
                  try simp only [List.getElem_toArray, List.getElem_cons_zero, List.getElem_cons_succ, Act.put, List.setIfInBounds_toArray, List.set_cons_zero, List.set_cons_succ]
                  refine' wpAnyK_takeL (i := 10) (v := _) rfl (by kernel_rfl) (by kernel_rfl) (by kernel_rfl) (by kernel_rfl) (fun _ _ _ h => h) (Or.inl ⟨by rfl, ?yT11⟩) hHeld ?rT11
                  case yT11 => (intro w' hSw; (try dsimp only at hSw); go_simp; try with_reducible rfl)
                  try simp only [List.getElem_toArray, List.getElem_cons_zero, List.getElem_cons_succ, Act.put, List.setIfInBounds_toArray, List.set_cons_zero, List.set_cons_succ]
                  refine' wpAnyK_takeL (i := 11) (v := _) rfl (by kernel_rfl) (by kernel_rfl) (by kernel_rfl) (by kernel_rfl) (fun _ _ _ h => h) (Or.inl ⟨by rfl, ?yT12⟩) hHeld ?rT12
                  case yT12 => (intro w' hSw; (try dsimp only at hSw); go_simp; try with_reducible rfl)
                  try simp only [List.getElem_toArray, List.getElem_cons_zero, List.getElem_cons_succ, Act.put, List.setIfInBounds_toArray, List.set_cons_zero, List.set_cons_succ]
                  refine wpAnyK_oneL (i := 12) rfl (by kernel_rfl) (fun K hK => ?_)
                  go_simp
                  go_at_call 74
                  refine (l07Minus_c m QT _ _ p' r' _ ((hpdq).below (by (repeat (first | exact bR _ _ | (refine bS ?_ _) | (refine bA ?_ _) | (refine bN ?_ _) | (refine bD ?_)))) (Nat.le_refl _)) ((hrdq).below (by (repeat (first | exact bR _ _ | (refine bS ?_ _) | (refine bA ?_ _) | (refine bN ?_ _) | (refine bD ?_)))) (Nat.le_refl _)) (by rw [HPl.out, HRl.out]) (by rw [HPl.out]; omega) hm hm' hQT.1 (by omega) HPr.out.rng HRr.out.rng).mono ?_
                  rintro e wd1 ⟨va, rfl, hod1, hbd1⟩
                  obtain ⟨oa, ca, rfl⟩ := hod1.shapeN (n := n + 1) (by rw [minL_len]; exact HPl.out)
                  have hd1 : Below wq.heap.size wq wd1 := (by (repeat (first | exact bR _ _ | (refine bS ?_ _) | (refine bA ?_ _) | (refine bN ?_ _) | (refine bD ?_) | (refine bT ?_ hbd1))))
                  have hsd1 := hd1.size
                  have hsz1_ := hbd1.size
                  (try simp at hsz1_)
                  go_wp2_with fail
                  refine hK.out _ _ (fun h => absurd h (by decide)) ?_
                  clear hK K
                  try simp only [List.getElem_toArray, List.getElem_cons_zero, List.getElem_cons_succ, Act.put, List.setIfInBounds_toArray, List.set_cons_zero, List.set_cons_succ]
                  refine wpAnyK_oneL (i := 13) rfl (by kernel_rfl) (fun K hK => ?_)
                  go_simp
                  (try go_wp2_with fail)
                  refine hK.out _ _ (fun h => absurd h (by decide)) ?_
                  clear hK K
                  try simp only [List.getElem_toArray, List.getElem_cons_zero, List.getElem_cons_succ, Act.put, List.setIfInBounds_toArray, List.set_cons_zero, List.set_cons_succ]
                  refine wpAnyK_done (by kernel_rfl) ?_ _
                  go_wp2_with fail
                  have hB9 := hbq.trans (hd1.mono hbqs)
                  have hr9 := hr.below hB9
                  have hp9 := hp.below hB9
                  have hz9 := hd1.size
                  have hm9 : Rdf E [g, q] wd1 (fun x => RdI x (.slice oa (n + 1) ca) (minL m p' r' QT)) := hod1.rdf hbd1.size (by simp; omega) (by simp; omega)
                  have hV9 := rowV_eq hod1.rd (show j < (minL m p' r' QT).length by rw [minL_len, HPl.out]; omega)
                  go_wp2
                  exact ⟨⟨_, _, _, _, r', minL m p' r' QT, by rw [HRl.out], by rw [minL_len, HPl.out], by rw [HRl.out]; exact hr9, by rw [minL_len, HPl.out]; exact hm9, HS, hBk.trans (hB9.mono hBks)⟩, by rw [hV9, HM.out, HV.out, HXe.out]; omega⟩
                · skip
                  have hQT := quo_min (m := m) hXr.1 hXr.2 (show 0 < Y by omega)
                  have e2 : X.tdiv Y = X / Y := Int.tdiv_eq_ediv_of_nonneg hXr.1
                  have z0 : (Y == 0) = false := by simp; omega
                  have z1 : ¬ Y = 0 := by omega
                  have HS := Lib.hid (HEu.out.sub (by omega) hpn (X / Y))
                  have HM := Lib.hid (show at0 (minL m r' p' (X / Y)) j = X % Y by
                    have := minL_div (m := m) (p := p') (r := r') (j := j) (by rw [HRl.out]; omega) (by rw [HYe.out]; omega) (by rw [HXe.out]; omega) (by rw [HYe.out]; omega) (by rw [HXe.out]; omega)
                    rwa [HXe.out, HYe.out] at this)
                  have hmr : 0 ≤ X % Y ∧ X % Y < Y := ⟨Int.emod_nonneg _ z1, Int.emod_lt_of_pos _ (by omega)⟩
                  have e3 : IntKind.i64.wrap (X / Y) = X / Y := IntWalk.i64_in _ (by omega)
                  generalize X / Y = QT at hQT e2 e3 HS HM
                  go_wp2_with fail
                  have hd0 : Below wq.heap.size wq wq.drew := (Below.refl _ _).drew
                  have hsd0 := hd0.size
                  refine wp_region_K (S := fun w' => w'.cell? ⟨br, fr + j, none⟩ = some (.int .i64 X) ∧ w'.cell? ⟨bp, fp + j, none⟩ = some (.int .i64 Y)) [12, 13] (by kernel_rfl) ?_
                  have hHeld : (fun w' : World => w'.cell? ⟨br, fr + j, none⟩ = some (.int .i64 X) ∧ w'.cell? ⟨bp, fp + j, none⟩ = some (.int .i64 Y)) wq.drew := by go_keep
                  refine' wpAnyK_takeL (i := 0) (v := _) rfl (by kernel_rfl) (by kernel_rfl) (by kernel_rfl) (by kernel_rfl) (fun _ _ _ h => h) (Or.inl ⟨by rfl, ?yT13⟩) hHeld ?rT13
                  case yT13 => (intro w' hSw; (try dsimp only at hSw); go_simp; try with_reducible rfl)
                  try simp only [List.getElem_toArray, List.getElem_cons_zero, List.getElem_cons_succ, Act.put, List.setIfInBounds_toArray, List.set_cons_zero, List.set_cons_succ]
                  refine' wpAnyK_takeL (i := 1) (v := _) rfl (by kernel_rfl) (by kernel_rfl) (by kernel_rfl) (by kernel_rfl) (fun _ _ _ h => h) (Or.inl ⟨by rfl, ?yT14⟩) hHeld ?rT14
                  case yT14 => (intro w' hSw; (try dsimp only at hSw); go_simp; try with_reducible rfl)
                  try simp only [List.getElem_toArray, List.getElem_cons_zero, List.getElem_cons_succ, Act.put, List.setIfInBounds_toArray, List.set_cons_zero, List.set_cons_succ]
                  refine' wpAnyK_takeL (i := 2) (v := _) rfl (by kernel_rfl) (by kernel_rfl) (by kernel_rfl) (by kernel_rfl) (fun _ _ _ h => h) (Or.inl ⟨by rfl, ?yT15⟩) hHeld ?rT15
                  case yT15 => (intro w' hSw; (try dsimp only at hSw); go_simp; try with_reducible rfl)
                  try simp only [List.getElem_toArray, List.getElem_cons_zero, List.getElem_cons_succ, Act.put, List.setIfInBounds_toArray, List.set_cons_zero, List.set_cons_succ]
                  refine' wpAnyK_takeL (i := 3) (v := _) rfl (by kernel_rfl) (by kernel_rfl) (by kernel_rfl) (by kernel_rfl) (fun _ _ _ h => h) (Or.inl ⟨by rfl, ?yT16⟩) hHeld ?rT16
                  case yT16 => (intro w' hSw; (try dsimp only at hSw); go_simp; try with_reducible rfl)
                  try simp only [List.getElem_toArray, List.getElem_cons_zero, List.getElem_cons_succ, Act.put, List.setIfInBounds_toArray, List.set_cons_zero, List.set_cons_succ]
                  refine' wpAnyK_takeL (i := 4) (v := _) rfl (by kernel_rfl) (by kernel_rfl) (by kernel_rfl) (by kernel_rfl) (fun _ _ _ h => h) (Or.inl ⟨by rfl, ?yT17⟩) hHeld ?rT17
                  case yT17 => (intro w' hSw; (try dsimp only at hSw); go_simp; try with_reducible rfl)
                  try simp only [List.getElem_toArray, List.getElem_cons_zero, List.getElem_cons_succ, Act.put, List.setIfInBounds_toArray, List.set_cons_zero, List.set_cons_succ]
                  refine' wpAnyK_takeL (i := 5) (v := _) rfl (by kernel_rfl) (by kernel_rfl) (by kernel_rfl) (by kernel_rfl) (fun _ _ _ h => h) (Or.inl ⟨by rfl, ?yT18⟩) hHeld ?rT18
                  case yT18 => (intro w' hSw; (try dsimp only at hSw); go_simp; try with_reducible rfl)
                  try simp only [List.getElem_toArray, List.getElem_cons_zero, List.getElem_cons_succ, Act.put, List.setIfInBounds_toArray, List.set_cons_zero, List.set_cons_succ]
                  refine' wpAnyK_takeL (i := 6) (v := _) rfl (by kernel_rfl) (by kernel_rfl) (by kernel_rfl) (by kernel_rfl) (fun _ _ _ h => h) (Or.inl ⟨by rfl, ?yT19⟩) hHeld ?rT19
                  case yT19 => (intro w' hSw; (try dsimp only at hSw); go_simp; try with_reducible rfl)
                  try simp only [List.getElem_toArray, List.getElem_cons_zero, List.getElem_cons_succ, Act.put, List.setIfInBounds_toArray, List.set_cons_zero, List.set_cons_succ]
                  refine' wpAnyK_takeL (i := 7) (v := _) rfl (by kernel_rfl) (by kernel_rfl) (by kernel_rfl) (by kernel_rfl) (fun _ _ _ h => h) (Or.inl ⟨by rfl, ?yT20⟩) hHeld ?rT20
                  case yT20 => (intro w' hSw; (try dsimp only at hSw); go_simp; try with_reducible rfl)
                  try simp only [List.getElem_toArray, List.getElem_cons_zero, List.getElem_cons_succ, Act.put, List.setIfInBounds_toArray, List.set_cons_zero, List.set_cons_succ]
                  refine' wpAnyK_takeL (i := 8) (v := _) rfl (by kernel_rfl) (by kernel_rfl) (by kernel_rfl) (by kernel_rfl) (fun _ _ _ h => h) (Or.inl ⟨by rfl, ?yT21⟩) hHeld ?rT21
                  case yT21 => (intro w' hSw; (try dsimp only at hSw); go_simp; try with_reducible rfl)
                  try simp only [List.getElem_toArray, List.getElem_cons_zero, List.getElem_cons_succ, Act.put, List.setIfInBounds_toArray, List.set_cons_zero, List.set_cons_succ]
                  refine' wpAnyK_takeL (i := 9) (v := _) rfl (by kernel_rfl) (by kernel_rfl) (by kernel_rfl) (by kernel_rfl) (fun _ _ _ h => h) (Or.inl ⟨by rfl, ?yT22⟩) hHeld ?rT22
                  case yT22 => (intro w' hSw; (try dsimp only at hSw); go_simp; try with_reducible rfl)
                  try simp only [List.getElem_toArray, List.getElem_cons_zero, List.getElem_cons_succ, Act.put, List.setIfInBounds_toArray, List.set_cons_zero, List.set_cons_succ]
                  refine' wpAnyK_takeL (i := 10) (v := _) rfl (by kernel_rfl) (by kernel_rfl) (by kernel_rfl) (by kernel_rfl) (fun _ _ _ h => h) (Or.inl ⟨by rfl, ?yT23⟩) hHeld ?rT23
                  case yT23 => (intro w' hSw; (try dsimp only at hSw); go_simp; try with_reducible rfl)
                  try simp only [List.getElem_toArray, List.getElem_cons_zero, List.getElem_cons_succ, Act.put, List.setIfInBounds_toArray, List.set_cons_zero, List.set_cons_succ]
                  refine' wpAnyK_takeL (i := 11) (v := _) rfl (by kernel_rfl) (by kernel_rfl) (by kernel_rfl) (by kernel_rfl) (fun _ _ _ h => h) (Or.inl ⟨by rfl, ?yT24⟩) hHeld ?rT24
                  case yT24 => (intro w' hSw; (try dsimp only at hSw); go_simp; try with_reducible rfl)
                  try simp only [List.getElem_toArray, List.getElem_cons_zero, List.getElem_cons_succ, Act.put, List.setIfInBounds_toArray, List.set_cons_zero, List.set_cons_succ]
                  refine wpAnyK_oneL (i := 12) rfl (by kernel_rfl) (fun K hK => ?_)
                  go_simp
                  go_at_call 74
                  refine (l07Minus_c m QT _ _ r' p' _ ((hrdq).below (by (repeat (first | exact bR _ _ | (refine bS ?_ _) | (refine bA ?_ _) | (refine bN ?_ _) | (refine bD ?_)))) (Nat.le_refl _)) ((hpdq).below (by (repeat (first | exact bR _ _ | (refine bS ?_ _) | (refine bA ?_ _) | (refine bN ?_ _) | (refine bD ?_)))) (Nat.le_refl _)) (by rw [HPl.out, HRl.out]) (by rw [HRl.out]; omega) hm hm' hQT.1 (by omega) HRr.out.rng HPr.out.rng).mono ?_
                  rintro e wd1 ⟨va, rfl, hod1, hbd1⟩
                  obtain ⟨oa, ca, rfl⟩ := hod1.shapeN (n := n + 1) (by rw [minL_len]; exact HRl.out)
                  have hd1 : Below wq.heap.size wq wd1 := (by (repeat (first | exact bR _ _ | (refine bS ?_ _) | (refine bA ?_ _) | (refine bN ?_ _) | (refine bD ?_) | (refine bT ?_ hbd1))))
                  have hsd1 := hd1.size
                  have hsz1_ := hbd1.size
                  (try simp at hsz1_)
                  go_wp2_with fail
                  refine hK.out _ _ (fun h => absurd h (by decide)) ?_
                  clear hK K
                  try simp only [List.getElem_toArray, List.getElem_cons_zero, List.getElem_cons_succ, Act.put, List.setIfInBounds_toArray, List.set_cons_zero, List.set_cons_succ]
                  refine wpAnyK_oneL (i := 13) rfl (by kernel_rfl) (fun K hK => ?_)
                  go_simp
                  (try go_wp2_with fail)
                  refine hK.out _ _ (fun h => absurd h (by decide)) ?_
                  clear hK K
                  try simp only [List.getElem_toArray, List.getElem_cons_zero, List.getElem_cons_succ, Act.put, List.setIfInBounds_toArray, List.set_cons_zero, List.set_cons_succ]
                  refine wpAnyK_done (by kernel_rfl) ?_ _
                  go_wp2_with fail
                  have hB9 := hbq.trans (hd1.mono hbqs)
                  have hr9 := hr.below hB9
                  have hp9 := hp.below hB9
                  have hz9 := hd1.size
                  have hm9 : Rdf E [g, q] wd1 (fun x => RdI x (.slice oa (n + 1) ca) (minL m r' p' QT)) := hod1.rdf hbd1.size (by simp; omega) (by simp; omega)
                  have hV9 := rowV_eq hod1.rd (show j < (minL m r' p' QT).length by rw [minL_len, HRl.out]; omega)
                  go_wp2
                  exact ⟨⟨_, _, _, _, p', minL m r' p' QT, by rw [HPl.out], by rw [minL_len, HRl.out], by rw [HPl.out]; exact hp9, by rw [minL_len, HRl.out]; exact hm9, HS, hBk.trans (hB9.mono hBks)⟩, by rw [hV9, HM.out, HV.out, HXe.out]; omega⟩
        · obtain rfl : k = R.length := by omega
          have i1 : ¬ (R.length : Int) < (R.length : Int) := by omega
          have e2 : IntKind.i64.wrap ((j : Int) - 1) = (j : Int) - 1 := IntWalk.i64_in _ (by omega)
          have hBw := hB.trans (hBi.mono (show q ≤ wa.heap.size by omega))
          by_cases hpn : p = []
          · subst hpn
            have HI2 := Lib.hid (HI.out.none (by omega) HP.out)
            obtain ⟨us2, hR2⟩ := OT.fix (S' := [q]) (by simp; omega) (by omega) (fun s hs => .inl hs)
            have OO2 := OO.below hBi
            have hTl : T.length + j ≤ 1000 + n := by rw [← HTl.out]; omega
            clear OT OO hpv
            go_wp2
            exact ⟨⟨j, g, 0, cg, us2, T, out, by omega, rfl, by rw [HTl.out], hTl, by rw [← HTl.out]; exact hR2, OO2, HI2, hBw⟩, by first | (simp [intOf]; done) | (simp [intOf]; omega)⟩
          · have hpp := HP.out.pp.resolve_left hpn
            have hpl := hpp.1.len
            have hpd := hpv.now
            obtain ⟨bp, fp, rfl, -⟩ := hpd.cells (by omega)
            have cp1 := hpd.cell0 (k := j) (some_at0 (by omega))
            have hYr := hpp.1.at (show 0 < m by omega) j
            have hy0 := hpp.2
            have HI2 := Lib.hid (HI.out.some hm (by omega) HP.out hpn)
            have hol := HI.out.len
            rw [hpl] at hpv hpd ⊢
            have HPl := Lib.hid hpl
            have HPr := Lib.hid hpp.1.rng
            clear hpl hpp
            obtain ⟨G, hG⟩ : ∃ G : Int, ((Nat.gcd (at0 p j).toNat m.toNat : Nat) : Int) = G := ⟨_, rfl⟩
            have hG0 : 1 ≤ G ∧ G ≤ m := by
              have h1 : 0 < Nat.gcd (at0 p j).toNat m.toNat := Nat.gcd_pos_of_pos_right _ (by omega)
              have h2 := Nat.le_of_dvd (show 0 < m.toNat by omega) (Nat.gcd_dvd_right (at0 p j).toNat m.toNat)
              omega
            rw [hG] at HI2
            generalize at0 p j = Y at cp1 hYr hy0 hG
            have HG := Lib.hid hG
            clear hG
            have hQ0 : 0 ≤ m / G := Int.ediv_nonneg (by omega) (by omega)
            have hQ1 : m / G ≤ m := Int.ediv_le_self _ (by omega)
            have e3 : m.tdiv G = m / G := Int.tdiv_eq_ediv_of_nonneg (by omega)
            have e4 : IntKind.i64.wrap (m / G) = m / G := IntWalk.i64_in _ (by omega)
            generalize m / G = Q at hQ0 hQ1 e3 e4 HI2
            have e5 : IntKind.i64.wrap (m - Q) = m - Q := IntWalk.i64_in _ (by omega)
            have z0 : (G == 0) = false := by simp; omega
            have z1 : ¬ G = 0 := by omega
            have p0 : (0 : Int) < (n : Int) + 1 := by omega
            obtain ⟨row, hrow⟩ : ∃ row, out[j]? = some row := ⟨out[j]'(by omega), List.getElem?_eq_getElem (by omega)⟩
            have HRow := Lib.hid hrow
            clear hrow hol
            go_wp2_with (first
              | (at_make; go_loud (refine mkI _ rfl _ _ rfl _ _ _ (n + 1) rfl rfl rfl (by omega) ?_; intro w3 hown hb3 hs3; have hz3 : wi.heap.size < w3.heap.size := (by omega); have hpd3 := hpd.below hb3 (Nat.le_refl _); have cp3 := keep_cell hb3 (Nat.le_refl _) cp1; have hzr := hown.rd; clear cp1 hs3))
              | (go_at_call 72; go_loud (refine (l01Gcd_c Y m _ (by omega) (by omega) (by omega) (by omega)).mono ?_; rw [HG.out]; rintro e w' ⟨rfl, rfl⟩))
              | (go_at_call 74; go_loud (refine (l07Minus_c m (m - Q) _ _ (List.replicate (n + 1) 0) p _ hzr hpd3 (by rw [HPl.out, List.length_replicate]) (by rw [List.length_replicate]; omega) hm hm' (by omega) (by omega) (by intro x hx; have := (List.mem_replicate.1 hx).2; omega) HPr.out).mono ?_; rintro e w4 ⟨va, rfl, ho4, hb4⟩; obtain ⟨oa, ca, rfl⟩ := ho4.shapeN (n := n + 1) (by rw [minL_len]; exact List.length_replicate); have hz4 := hb4.size))
              | (at_builtin; obtain ⟨W, hW⟩ : ∃ W : World, W = w4.alloc (.cells #[.slice oa (n + 1) ca] 34) := ⟨_, rfl⟩; have hWb1 : Below w4.heap.size w4 W := (by rw [hW]; exact (by (repeat (first | exact bR _ _ | (refine bS ?_ _) | (refine bA ?_ _) | (refine bN ?_ _) | (refine bD ?_))))); have hWb3 : Below w3.heap.size w3 W := hb4.trans (hWb1.mono hz4); have hWb : Below wi.heap.size wi W := hb3.trans (hWb3.mono (by omega)); have hWz := hWb.size; have hWz1 := hWb1.size; have hU : Rdf E [g, q] W (fun x => RdI x (.slice oa (n + 1) ca) (minL m (List.replicate (n + 1) 0) p (m - Q))) := (ho4.rdf (S := [g, q]) hz4 (by omega) (by simp; omega)).below hWb1; have hC0 : W.cell? ⟨w4.heap.size, 0, none⟩ = some (.slice oa (n + 1) ca) := (by rw [hW]; simp); rw [← hW]; have HW := Lib.hid hW; clear hW; go_loud (refine apQR W rfl _ _ rfl E wa.heap.size [q] g R.length cg T rfl (OT.below hWb) (by omega) _ (minL m (List.replicate (n + 1) 0) p (m - Q)) w4.heap.size rfl hC0 rfl hU (by rw [← HTl.out]; omega) ?_; intro g2 c2 w5 hO5 hgr hb5 hg5; have hB5 := (hBi.trans (hWb.mono hBis)).trans hb5; have hp5 := (hpv.below hWb).grown hgr (S' := [q]) (by simp) (by simp); have OO5 := OO.below hB5; obtain ⟨u5, hu5, -⟩ := OO5.cells HRow.out; have hf5 := OO5.fz j)))
            have OO6 := OO5.put j hp5
            have hO6 := hO5.other (r := some q) (S' := [q]) (grown_put w5 q j (.slice (some ⟨bp, fp, none⟩) (n + 1) cp)) (by intro e; simp at e; have := hO5.lt; omega) (by simp) (fun s hs => .inl hs)
            obtain ⟨us2, hR2⟩ := hO6.fix (S' := [q]) (by simp; have := hO5.lt; omega) (by have := hO5.lt; omega) (fun s hs => .inl hs)
            have hTl : (T ++ [minL m (List.replicate (n + 1) 0) p (m - Q)]).length = R.length + 1 := by rw [List.length_append, ← HTl.out]; rfl
            have HTl2 := Lib.hid hTl
            clear hTl
            have hB6 : Below q w (w5.setCell ⟨q, j, none⟩ (.slice (some ⟨bp, fp, none⟩) (n + 1) cp)) := below_put (hB.trans (hB5.mono (show q ≤ wa.heap.size by omega))) (Nat.le_refl _) _
            go_wp2
            exact ⟨⟨j, g2, 0, c2, us2, _, _, by omega, rfl, by rw [HTl2.out], by rw [HTl2.out]; omega, by rw [HTl2.out]; exact hR2, OO6, HI2, hB6⟩, by first | (simp [intOf]; done) | (simp [intOf]; omega)⟩
end Go.Proofs.YteijannfbafdpaaGreatDoor
