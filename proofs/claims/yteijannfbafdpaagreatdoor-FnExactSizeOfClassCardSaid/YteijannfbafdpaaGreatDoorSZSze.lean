/- Lemmas. -/
import Derived.Test.YteijannfbafdpaaGreatDoorSZM20
import Derived.Test.YteijannfbafdpaaGreatDoorSZSzm
import Derived.Test.YteijannfbafdpaaGreatDoorSZG5
import Derived.Test.YteijannfbafdpaaGreatDoorSZM10
import Derived.Test.YteijannfbafdpaaGreatDoorSZM14
set_option linter.unusedSimpArgs false
set_option linter.unusedVariables false
namespace Go.Proofs.YteijannfbafdpaaGreatDoor
open Go.RowKit

def symL (m : Int) (n q : Nat) : List (List Int) := (List.range q).map (fun i => symR m n (i + 1))
theorem symL_len (m : Int) (n q : Nat) : (symL m n q).length = q := by simp [symL]
theorem symL_snoc (m : Int) (n q : Nat) : symL m n (q + 1) = symL m n q ++ [symR m n (q + 1)] := by simp [symL, List.range_succ]
structure EqP (m : Int) (n : Nat) (t : List (List Int)) (p q : Nat) (R : List (List Int)) : Prop where
  row : ∀ r ∈ R, (∃ k, 1 ≤ k ∧ 2 * k < n ∧ r = symR m n k) ∨ (∃ a c, 1 ≤ a ∧ 1 ≤ c ∧ a + c < n ∧ r = asR m n t a c)
  sy : ∀ k, 1 ≤ k → 2 * k < n → symR m n k ∈ R
  asc : ∀ a c, 1 ≤ a → 1 ≤ c → a + c < n → (c ≤ p ∨ (c = p + 1 ∧ a ≤ q)) → asR m n t a c ∈ R
theorem EqP.start {m : Int} {n q : Nat} {t : List (List Int)} (h1 : 2 * q < n ∨ q = 0) (h : ¬ 2 * (q + 1) < n) : EqP m n t 0 0 (symL m n q) := by
  refine ⟨fun r hr => ?_, fun k h1 h2 => ?_, fun a c _ _ _ h => by omega⟩
  · unfold symL at hr
    simp only [List.mem_map, List.mem_range] at hr
    obtain ⟨i, hi, rfl⟩ := hr
    exact .inl ⟨i + 1, by omega, by omega, rfl⟩
  · unfold symL
    simp only [List.mem_map, List.mem_range]
    exact ⟨k - 1, by omega, by rw [show k - 1 + 1 = k by omega]⟩
theorem EqP.snoc {m : Int} {n p q : Nat} {t R : List (List Int)} (h : EqP m n t p q R) (ha : q + 1 + (p + 1) < n) : EqP m n t p (q + 1) (R ++ [asR m n t (q + 1) (p + 1)]) := by
  refine ⟨fun r hr => ?_, fun k h1 h2 => List.mem_append_left _ (h.sy k h1 h2), fun a c h1 h2 h3 h4 => ?_⟩
  · rcases List.mem_append.1 hr with hr | hr
    · exact h.row r hr
    · obtain rfl := List.mem_singleton.1 hr
      exact .inr ⟨q + 1, p + 1, by omega, by omega, ha, rfl⟩
  · by_cases e : c = p + 1 ∧ a = q + 1
    · obtain ⟨rfl, rfl⟩ := e
      exact List.mem_append_right _ (List.mem_singleton.2 rfl)
    · exact List.mem_append_left _ (h.asc a c h1 h2 h3 (by omega))
theorem EqP.col {m : Int} {n p q : Nat} {t R : List (List Int)} (h : EqP m n t p q R) (ha : ¬ q + 1 + (p + 1) < n) : EqP m n t (p + 1) 0 R :=
  ⟨h.row, h.sy, fun a c h1 h2 h3 h4 => h.asc a c h1 h2 h3 (by omega)⟩
theorem EqP.all {m : Int} {n p : Nat} {t R : List (List Int)} (h : EqP m n t p 0 R) (hp : ¬ p + 1 < n) : EqOK m n t R :=
  ⟨h.row, h.sy, fun a c h1 h2 h3 => h.asc a c h1 h2 h3 (.inl (by omega))⟩

theorem rigC_rng {m : Int} {n : Nat} {t : List (List Int)} {a b c : Nat} (hm : 0 < m) : 0 ≤ rigC m n t a b c ∧ rigC m n t a b c < m := mod_lt' hm
theorem lefC_rng {m : Int} {n : Nat} {t : List (List Int)} {a b c : Nat} (hm : 0 < m) : 0 ≤ lefC m n t a b c ∧ lefC m n t a b c < m := mod_lt' hm
theorem cell_at_end {n : Nat} (X : World) (u : Value) {T : TypeId} (h : X.heap.size = n) : (X.alloc (.cells #[u] T)).cell? ⟨n, 0, none⟩ = some u := by subst h; simp

set_option maxHeartbeats 8000000 in
set_option maxRecDepth 100000 in
theorem l07Equations_c (m : Int) (n : Nat) (v : Value) (t : List (List Int)) (w : World) (hv : RdT w v t) (h2 : 2 ≤ n) (hn : n ≤ 10) (hm : 2 ≤ m) (hm' : m ≤ 10000) (ht : PlaT m n t) :
    Calls Tryz.prog 48 #[.int .i64 m, v] w fun e w' => ∃ g c us R, e = .returned (.slice (some ⟨g, 0, none⟩) R.length c) ∧ Rds w.heap.size w'.heap.size w' (fun x => RdTU us x (.slice (some ⟨g, 0, none⟩) R.length c) R) ∧ EqOK m n t R ∧ R.length ≤ 1000 ∧ Below w.heap.size w w' := by
  have HLP := Lib.hid (lonT_ok (m := m) (by omega) ht)
  have HLn := Lib.hid (show (lonT n t).length = n + 1 from tri_len _ _)
  have e00 : IntKind.i64.wrap ((n : Int) + 1 - 1) = (n : Int) := by rw [IntWalk.i64_in _ (by omega)]; omega
  go_enter Tryz.func48, Tryz.ntmps48
  go_wp2_with fail
  refine (l07Longer_c m n _ t _ hv (by omega) ht).mono ?_
  rintro e w1 ⟨v1, rfl, hL, hb1⟩
  obtain ⟨oL, cL, rfl⟩ := hL.shapeN (n := n + 1) HLn.out
  have hb1s := hb1.size
  go_wp2_with fail
  have OR := OwQR.lit0 w1 w.heap.size []
  have RL : Rdf w.heap.size [w1.heap.size] (w1.alloc (.cells #[] 34)) (fun x => RdT x (.slice oL (n + 1) cL) (lonT n t)) := (hL.rdf (S := [w1.heap.size]) (Nat.le_refl _) (by simp)).below (by (repeat (first | exact bR _ _ | (refine bS ?_ _) | (refine bA ?_ _) | (refine bN ?_ _) | (refine bD ?_))))
  have hb2 : Below w1.heap.size w1 (w1.alloc (.cells #[] 34)) := (by (repeat (first | exact bR _ _ | (refine bS ?_ _) | (refine bA ?_ _) | (refine bN ?_ _) | (refine bD ?_))))
  generalize w1.alloc (.cells #[] 34) = w2 at OR RL hb2 ⊢
  clear hL ht
  go_loopw [7, 8] (fun s i wr => ∃ q g c : Nat, (2 * q < n ∨ q = 0) ∧ i = .int .i64 ((q : Int) + 1) ∧ s = .slice (some ⟨g, 0, none⟩) q c ∧ OwQR wr w.heap.size w1.heap.size [] g q c (symL m n q) ∧ Rdf w.heap.size [g] wr (fun x => RdT x (.slice oL (n + 1) cL) (lonT n t)) ∧ Below w1.heap.size w1 wr) (fun _ i _ => n + 1 - (intOf i).toNat)
  case atStart => exact ⟨0, _, _, .inr rfl, rfl, rfl, OR, RL, hb2⟩
  case round =>
    clear OR RL hb2
    obtain ⟨q, g, c, hq, rfl, rfl, OR, RL, hB⟩ := hrel
    have hBs := hB.size
    have hglt := OR.lt
    have e01 : IntKind.i64.wrap (2 * ((q : Int) + 1)) = 2 * ((q : Int) + 1) := IntWalk.i64_in _ (by omega)
    by_cases hlt : 2 * (q + 1) < n
    · have i0 : 2 * ((q : Int) + 1) < (n : Int) := by omega
      obtain ⟨r, hr⟩ : ∃ r, n - (q + 1) - 1 = r := ⟨_, rfl⟩
      have e1 : IntKind.i64.wrap ((n : Int) - ((q : Int) + 1)) = (n : Int) - ((q : Int) + 1) := IntWalk.i64_in _ (by omega)
      have e2 : IntKind.i64.wrap ((n : Int) - ((q : Int) + 1) - 1) = (r : Int) := by rw [IntWalk.i64_in _ (by omega)]; omega
      have e3 : IntKind.i64.wrap ((q : Int) + 1 - 1) = (q : Int) := by rw [IntWalk.i64_in _ (by omega)]; omega
      have e4 : IntKind.i64.wrap (m - 1) = m - 1 := IntWalk.i64_in _ (by omega)
      have j1 : (q : Int) < (n : Int) := by omega
      have j2 : (r : Int) < (n : Int) := by omega
      have j3 : q < n := by omega
      have j4 : r < n := by omega
      have HS := Lib.hid (show symL m n (q + 1) = symL m n q ++ [((List.replicate n (0 : Int)).set q 1).set r (m - 1)] by
        rw [symL_snoc, ← hr]; rfl)
      have HLs := Lib.hid (symL_len m n q)
      have hqr : r ≠ q := by omega
      clear hr
      generalize symL m n q = l at OR HS HLs
      go_wp2_with (first
        | (at_make; go_loud (refine mkI _ rfl _ _ rfl _ _ _ n rfl rfl rfl (by omega) ?_; intro w3 hown hb3 hs3; have hc0 := hown.cell (k := q) (rep_get n q 0 j3); have hf0 := hown.fz q; have hP1 := hown.put q 1; have hc1 := hP1.cell (k := r) (x := 0) (by rw [List.getElem?_set, if_neg (by omega)]; exact rep_get n r 0 j4); have hf1 := hP1.fz r; have hP2 := hP1.put r (m - 1); have hlt3 : wr.heap.size < w3.heap.size := (by omega); clear hs3))
        | (at_builtin; obtain ⟨W, hW⟩ : ∃ W : World, W = ((w3.setCell ⟨wr.heap.size, q, none⟩ (.int .i64 1)).setCell ⟨wr.heap.size, r, none⟩ (.int .i64 (m - 1))).alloc (.cells #[.slice (some ⟨wr.heap.size, 0, none⟩) n n] 34) := ⟨_, rfl⟩; have hWb : Below wr.heap.size wr W := (by rw [hW]; exact (by (repeat (first | exact bR _ _ | (refine bS ?_ _) | (refine bA ?_ _) | (refine bN ?_ _) | (refine bD ?_) | (refine bT ?_ hb3))))); have hWz := hWb.size; have hU : OwI W wr.heap.size (.slice (some ⟨wr.heap.size, 0, none⟩) n n) (((List.replicate n (0 : Int)).set q 1).set r (m - 1)) := (by rw [hW]; exact hP2.alloc _); have hC : W.cell? ⟨w3.heap.size, 0, none⟩ = some (.slice (some ⟨wr.heap.size, 0, none⟩) n n) := (by rw [hW]; exact cell_at_end _ _ (by simp)); rw [← hW]; have HW := Lib.hid hW; clear hW; go_loud (refine apQR W rfl _ _ rfl w.heap.size w1.heap.size [] g q c l rfl (OR.below hWb) (by omega) _ _ w3.heap.size rfl hC rfl (hU.rdf hWz (by omega) (by simp; omega)) (by rw [HLs.out]; omega) ?_; intro g2 c2 w4 hO4 hgr hb4 hg4)))
      rw [← HS.out] at hO4
      have RL4 := (RL.below hWb).grown hgr (S' := [g2]) (by simp) (by intro s hs; simp at hs; subst hs; rcases hg4 with h | h; exact .inl (by rw [h]; simp); exact .inr (.inl (by omega)))
      have hB4 := (hB.trans (hWb.mono hBs)).trans hb4
      exact ⟨⟨q + 1, g2, c2, .inl hlt, by go_num, rfl, hO4, RL4, hB4⟩, by simp [intOf]; omega⟩
    · have i0 : ¬ 2 * ((q : Int) + 1) < (n : Int) := by omega
      have HP0 := Lib.hid (EqP.start (m := m) (t := t) hq hlt)
      have HLs := Lib.hid (show (symL m n q).length ≤ n by rw [symL_len]; omega)
      have HLe := Lib.hid (symL_len m n q)
      obtain ⟨wa, hwa⟩ : ∃ wa, wa = wr := ⟨_, rfl⟩
      rw [← hwa] at OR RL hB hBs hglt ⊢
      clear hwa hq
      generalize symL m n q = R0 at OR HP0 HLs HLe
      clear hlt
      go_wp2_with fail
      have OT := OwQT.lit0 wa w.heap.size [g]
      have hb2 : Below wa.heap.size wa (wa.alloc (.cells #[] 22)) := (by (repeat (first | exact bR _ _ | (refine bS ?_ _) | (refine bA ?_ _) | (refine bN ?_ _) | (refine bD ?_))))
      generalize wa.alloc (.cells #[] 22) = w2 at OT hb2 ⊢
      go_loopw [10, 11] (fun s i wr => ∃ k gr cr : Nat, k ≤ n ∧ i = .int .i64 k ∧ s = .slice (some ⟨gr, 0, none⟩) k cr ∧ OwQT wr w.heap.size wa.heap.size [g] gr k cr (rigL m (n + 1) (lonT n t) k) ∧ Below wa.heap.size wa wr) (fun _ i _ => n - (intOf i).toNat)
      case atStart => exact ⟨0, _, _, Nat.zero_le _, rfl, rfl, OT, hb2⟩
      case round =>
        clear OT hb2
        obtain ⟨k, gr, cr, hk, rfl, rfl, OT, hBr⟩ := hrel
        have hBrs := hBr.size
        have hTlt := OT.lt
        by_cases hlt : k < n
        · have i1 : (k : Int) < (n : Int) := by omega
          have i2 : (0 : Int) ≤ (k : Int) := by omega
          have i3 : (k : Int) < (n : Int) + 1 := by omega
          have RLr := (RL.below hBr).now
          obtain ⟨row, hr1, hl1, -⟩ := HLP.out.row (show k < n + 1 by omega)
          obtain ⟨bL, fL, rfl, -⟩ := RLr.rows (by rw [HLn.out]; omega)
          obtain ⟨p1, q1, cx, rx⟩ := RLr.row hr1
          rw [hl1] at cx rx
          have HR1 := Lib.hid hr1
          have HL1 := Lib.hid hl1
          clear hr1 hl1
          have HSn := Lib.hid (show rigL m (n + 1) (lonT n t) (k + 1) = rigL m (n + 1) (lonT n t) k ++ [hornT m (n + 1) (lonT n t) row] by rw [rigL_snoc, getD_some HR1.out])
          have HLr := Lib.hid (rigL_len m (n + 1) (lonT n t) k)
          generalize rigL m (n + 1) (lonT n t) k = l at OT HSn HLr
          go_wp2_with (first
            | (go_at_call 42; go_loud (refine (l03After_c m (n + 1) _ _ row (lonT n t) _ rx RLr (by omega) (by omega) hm (by omega) (by rw [HL1.out]; omega) (HLP.out.rowx HR1.out) HLP.out).mono ?_; rintro e w3 ⟨v3, rfl, ho3, hb3⟩; obtain ⟨o3, c3, rfl⟩ := ho3.shapeN (n := n + 1) (hornT_len _ _ _ _); have hz3 := hb3.size))
            | (at_builtin; obtain ⟨W, hW⟩ : ∃ W : World, W = w3.alloc (.cells #[.slice o3 (n + 1) c3] 22) := ⟨_, rfl⟩; have hWb1 : Below w3.heap.size w3 W := (by rw [hW]; exact (by (repeat (first | exact bR _ _ | (refine bS ?_ _) | (refine bA ?_ _) | (refine bN ?_ _) | (refine bD ?_))))); have hWb : Below wr.heap.size wr W := hb3.trans (hWb1.mono hz3); have hWz := hWb.size; have hU : Rdf w.heap.size [gr, g] W (fun x => RdT x (.slice o3 (n + 1) c3) (hornT m (n + 1) (lonT n t) row)) := (ho3.rdf (S := [gr, g]) (by omega) (by simp; omega)).below hWb1; have hC : W.cell? ⟨w3.heap.size, 0, none⟩ = some (.slice o3 (n + 1) c3) := (by rw [hW]; simp); rw [← hW]; have HW := Lib.hid hW; clear hW; go_loud (refine apQT W rfl _ _ rfl w.heap.size wa.heap.size [g] gr k cr l rfl (OT.below hWb) (by omega) _ _ w3.heap.size rfl hC rfl hU (by rw [HLr.out]; omega) ?_; intro g4 c4 w4 hO4 hgr4 hb4 hg4)))
          rw [← HSn.out] at hO4
          have hB4 := (hBr.trans (hWb.mono hBrs)).trans hb4
          exact ⟨⟨k + 1, g4, c4, by omega, by go_num, rfl, hO4, hB4⟩, by simp [intOf]; omega⟩
        · obtain rfl : k = n := by omega
          have i1 : ¬ (k : Int) < (k : Int) := by omega
          have hOR := OR.below (hBr.mono (Nat.le_refl _))
          have hRL := RL.below hBr
          have hRT := OT.fix (S' := [g]) (by simp; omega) (by omega) (fun s hs => .inl hs)
          have hB2 := hB.trans (hBr.mono hBs)
          clear OR RL OT hTlt hlt hk hBrs hBr
          have hlR0 := HLs.out
          rw [← HLe.out] at hOR ⊢
          go_wp2_with fail
          go_loopw [7, 12] (fun s i wr => ∃ (p g2 c2 : Nat) (R : List (List Int)), p + 1 ≤ k ∧ i = .int .i64 ((p : Int) + 1) ∧ s = .slice (some ⟨g2, 0, none⟩) R.length c2 ∧ OwQR wr w.heap.size w1.heap.size [] g2 R.length c2 R ∧ Hid (EqP m k t p 0 R) ∧ R.length ≤ 10 + 10 * p ∧ Rdf w.heap.size [g2] wr (fun x => RdT x (.slice oL (k + 1) cL) (lonT k t)) ∧ Rdf w.heap.size [g2] wr (fun x => RdLT x (.slice (some ⟨gr, 0, none⟩) k cr) (rigL m (k + 1) (lonT k t) k)) ∧ Below w1.heap.size w1 wr) (fun _ i _ => k - (intOf i).toNat)
          case atStart => exact ⟨0, _, _, _, by omega, rfl, rfl, hOR, HP0, by omega, hRL, hRT, hB2⟩
          case round =>
            clear hOR hRL hRT hB2 hB hBs hglt
            obtain ⟨p, g2, c2, R, hp, rfl, rfl, OR, HP, hRl, RL, RT, hB⟩ := hrel
            have hBs := hB.size
            have hglt := OR.lt
            by_cases hlt : p + 1 < k
            · have i1 : (p : Int) + 1 < (k : Int) := by omega
              have RLr := RL.now
              have HCl := Lib.hid (colT_len (lonT k t) (k + 1) (p + 1))
              go_wp2_with fail
              refine (l04Column_c m (k + 1) (p + 1) _ (lonT k t) _ RLr (by omega) (by omega) (by omega) HLP.out).mono ?_
              rintro e w3 ⟨v3, rfl, ho3, hb3⟩
              obtain ⟨o3, c3, rfl⟩ := ho3.shapeN (n := k - p) (by rw [HCl.out]; omega)
              have hz3 := hb3.size
              go_wp2_with fail
              refine (l03After_c m (k + 1) _ _ (colT (lonT k t) (k + 1) (p + 1)) (lonT k t) _ ho3.rd (RLr.below hb3 (Nat.le_refl _)) (by omega) (by omega) hm (by omega) (by rw [HCl.out]; omega) (colT_range HLP.out (p + 1)) HLP.out).mono ?_
              rintro e w4 ⟨v4, rfl, ho4, hb4⟩
              obtain ⟨o4, c4, rfl⟩ := ho4.shapeN (n := k + 1) (hornT_len _ _ _ _)
              have hb34 := hb3.trans (hb4.mono hz3)
              have hz4 := hb34.size
              have OR4 := OR.below hb34
              have RL4 := RL.below hb34
              have RT4 := RT.below hb34
              have RF4 : Rdf w.heap.size [g2] w4 (fun x => RdT x (.slice o4 (k + 1) c4) (hornT m (k + 1) (lonT k t) (colT (lonT k t) (k + 1) (p + 1)))) := ho4.rdf (by omega) (by simp; omega)
              have hB4 := hB.trans (hb34.mono hBs)
              clear OR RL RT ho3 ho4 hb3 hb4 hB RLr
              go_wp2_with fail
              go_loopw [7, 14] (fun s i wr => ∃ (q g2 c2 : Nat) (R : List (List Int)), q + 1 + p + 1 ≤ k ∧ i = .int .i64 ((q : Int) + 1) ∧ s = .slice (some ⟨g2, 0, none⟩) R.length c2 ∧ OwQR wr w.heap.size w1.heap.size [] g2 R.length c2 R ∧ Hid (EqP m k t p q R) ∧ R.length ≤ 10 + 10 * p + q ∧ Rdf w.heap.size [g2] wr (fun x => RdT x (.slice oL (k + 1) cL) (lonT k t)) ∧ Rdf w.heap.size [g2] wr (fun x => RdLT x (.slice (some ⟨gr, 0, none⟩) k cr) (rigL m (k + 1) (lonT k t) k)) ∧ Rdf w.heap.size [g2] wr (fun x => RdT x (.slice o4 (k + 1) c4) (hornT m (k + 1) (lonT k t) (colT (lonT k t) (k + 1) (p + 1)))) ∧ Below w1.heap.size w1 wr) (fun _ i _ => k - (intOf i).toNat)
              case atStart => exact ⟨0, _, _, _, by omega, rfl, rfl, OR4, HP, by omega, RL4, RT4, RF4, hB4⟩
              case round =>
                clear OR4 RL4 RT4 RF4 hB4 hz3 hz4 hb34 hBs hglt HP hRl
                obtain ⟨q, g2, c2, R, hq, rfl, rfl, OR, HP, hRl, RL, RT, RF, hB⟩ := hrel
                have hBs := hB.size
                have hglt := OR.lt
                by_cases hlt2 : q + 1 + (p + 1) < k
                · have i2 : (q : Int) + 1 + ((p : Int) + 1) < (k : Int) := by omega
                  have e5 : IntKind.i64.wrap ((q : Int) + 1 + ((p : Int) + 1)) = (q : Int) + 1 + ((p : Int) + 1) := IntWalk.i64_in _ (by omega)
                  obtain ⟨d, hd⟩ : ∃ d, d = k - (q + 1) := ⟨_, rfl⟩
                  obtain ⟨b, hb⟩ : ∃ b, b = k - (q + 1) - (p + 1) := ⟨_, rfl⟩
                  obtain ⟨s, hs⟩ : ∃ s, s = k - (p + 1) := ⟨_, rfl⟩
                  obtain ⟨s1, hs1⟩ : ∃ s1, s1 = k - (p + 1) - 1 := ⟨_, rfl⟩
                  obtain ⟨k1, hk1⟩ : ∃ k1, k1 = k - 1 := ⟨_, rfl⟩
                  have f1 : IntKind.i64.wrap ((k : Int) - ((q : Int) + 1)) = (d : Int) := by rw [IntWalk.i64_in _ (by omega)]; omega
                  have f2 : IntKind.i64.wrap ((d : Int) - ((p : Int) + 1)) = (b : Int) := by rw [IntWalk.i64_in _ (by omega)]; omega
                  have f3 : IntKind.i64.wrap ((q : Int) + 1 + (b : Int)) = (s : Int) := by rw [IntWalk.i64_in _ (by omega)]; omega
                  have f4 : IntKind.i64.wrap ((s : Int) - 1) = (s1 : Int) := by rw [IntWalk.i64_in _ (by omega)]; omega
                  have f5 : IntKind.i64.wrap ((q : Int) + 1 - 1) = (q : Int) := by rw [IntWalk.i64_in _ (by omega)]; omega
                  have f5' : IntKind.i64.wrap (q : Int) = (q : Int) := IntWalk.i64_in _ (by omega)
                  have f6 : IntKind.i64.wrap ((b : Int) + ((p : Int) + 1)) = (d : Int) := by rw [IntWalk.i64_in _ (by omega)]; omega
                  have f7 : IntKind.i64.wrap ((k : Int) - 1) = (k1 : Int) := by rw [IntWalk.i64_in _ (by omega)]; omega
                  have g1 : (0 : Int) ≤ (q : Int) + 1 := by omega
                  have g2' : (q : Int) + 1 < (k : Int) := by omega
                  have g2'' : (q : Int) + 1 < (k : Int) + 1 := by omega
                  have g3 : (s1 : Int) < (k : Int) := by omega
                  have g4 : s1 < k := by omega
                  have g5 : (q : Int) < (k : Int) := by omega
                  have g6 : q < k := by omega
                  have g7 : (k1 : Int) < (k : Int) := by omega
                  have g8 : k1 < k := by omega
                  have g9 : (b : Int) < (k : Int) + 1 := by omega
                  have g10 : (p : Int) + 1 < ((k + 1 - b : Nat) : Int) := by omega
                  have g11 : (b : Int) < ((k + 1 - (q + 1) : Nat) : Int) := by omega
                  have g11' : (b : Int) < ((k - q : Nat) : Int) := by omega
                  have g12 : (0 : Int) ≤ (p : Int) + 1 := by omega
                  have hne1 : q ≠ s1 := by omega
                  have hne2 : k1 ≠ q := by omega
                  have hne3 : k1 ≠ s1 := by omega
                  have hbs : q + 1 + b + (p + 1) = k := by omega
                  have hsum : q + 1 + b + (p + 1) < k + 1 := by omega
                  have b1 : q + 1 ≤ s ∧ s ≤ 10 := by omega
                  have b2 : b ≤ d ∧ d ≤ 10 := by omega
                  have HAs : Hid (asR m k t (q + 1) (p + 1) = (((List.replicate k (0 : Int)).set s1 (bin s (q + 1) % m)).set q ((0 - bin d b) % m)).set k1 ((rigC m (k + 1) (lonT k t) (q + 1) b (p + 1) - lefC m (k + 1) (lonT k t) (q + 1) b (p + 1)) % m)) := Lib.hid (by
                    unfold asR
                    rw [← hs1, ← hs, ← hd, show q + 1 - 1 = q from rfl, ← hk1, hd, ← hb])
                  have HPn := Lib.hid (HP.out.snoc hlt2)
                  clear hd hb hs hs1 hk1 hlt2 hbs
                  have RTn := RT.now
                  have RFn := RF.now
                  obtain ⟨o3, k3, z0, hT2⟩ := RTn.at (rigL_get (show q + 1 < k by omega))
                  rw [hornT_len] at z0 hT2
                  rw [Nat.zero_add] at z0
                  obtain ⟨b3, f3', rfl, -⟩ := hT2.rows (by rw [hornT_len]; omega)
                  obtain ⟨b2', f2', rfl, -⟩ := RFn.rows (by rw [hornT_len]; omega)
                  obtain ⟨r3, hr3, hl3, hj3⟩ := (hornT_ok (m := m) (by omega) (k + 1) (lonT k t) ((lonT k t).getD (q + 1) [])).row (show b < k + 1 by omega)
                  obtain ⟨r2, hr2, hl2, hj2⟩ := (hornT_ok (m := m) (by omega) (k + 1) (lonT k t) (colT (lonT k t) (k + 1) (p + 1))).row (show q + 1 < k + 1 by omega)
                  obtain ⟨p3, q3, cz, rz⟩ := hT2.row hr3
                  obtain ⟨p2, q2, cy, ry⟩ := RFn.row hr2
                  rw [hl3] at cz rz
                  rw [hl2] at cy ry
                  obtain ⟨b5, f5', rfl, -⟩ := rz.cells (by omega)
                  obtain ⟨b4, f4', rfl, -⟩ := ry.cells (by omega)
                  have ez := rz.cell0 (hj3 (p + 1) (by omega))
                  have ey := ry.cell0 (hj2 b (by omega))
                  have eL := left_eq (m := m) (n := k + 1) (t := lonT k t) (a := q + 1) (b := b) (c := p + 1) hsum
                  have eR := right_eq2 (m := m) HLP.out (a := q + 1) (b := b) (c := p + 1) hsum
                  rw [eL] at ey
                  rw [eR] at ez
                  have hRG := rigC_rng (m := m) (n := k + 1) (t := lonT k t) (a := q + 1) (b := b) (c := p + 1) (by omega)
                  have hLF := lefC_rng (m := m) (n := k + 1) (t := lonT k t) (a := q + 1) (b := b) (c := p + 1) (by omega)
                  have hX := bin_r10 (n := s) (by omega) (q + 1)
                  have hY := bin_r10 (n := d) (by omega) b
                  clear hr2 hl2 hj2 hr3 hl3 hj3 eL eR hsum RTn
                  have hBin1 := fun (u : World) => l01Binomial_c s (q + 1) u b1.1 b1.2
                  have hBin2 := fun (u : World) => l01Binomial_c d b u b2.1 b2.2
                  rw [show ((q + 1 : Nat) : Int) = (q : Int) + 1 from rfl] at hBin1
                  generalize bin s (q + 1) = X at hX HAs hBin1
                  generalize bin d b = Y at hY HAs hBin2
                  generalize rigC m (k + 1) (lonT k t) (q + 1) b (p + 1) = RG at hRG HAs ez
                  generalize lefC m (k + 1) (lonT k t) (q + 1) b (p + 1) = LF at hLF HAs ey
                  have HB1 := Lib.hid hBin1
                  have HB2 := Lib.hid hBin2
                  clear hBin1 hBin2
                  have hXm := mod_lt' (a := X) (show 0 < m by omega)
                  have hYm := mod_lt' (a := 0 - Y) (show 0 < m by omega)
                  have hZm := mod_lt' (a := RG - LF) (show 0 < m by omega)
                  have t1 : IntKind.i64.wrap X = X := IntWalk.i64_in _ (by omega)
                  have t2 : X.tmod m = X % m := Int.tmod_eq_emod_of_nonneg (by omega)
                  have t3 : IntKind.i64.wrap (X % m) = X % m := IntWalk.i64_in _ (by omega)
                  have t4 : IntKind.i64.wrap (0 - Y) = 0 - Y := IntWalk.i64_in _ (by omega)
                  have t4' : IntKind.i64.wrap (-Y) = -Y := IntWalk.i64_in _ (by omega)
                  have t5 : IntKind.i64.wrap (RG - LF) = RG - LF := IntWalk.i64_in _ (by omega)
                  have hYe : (0 - Y) % m = (-Y) % m := by rw [Int.zero_sub]
                  rw [hYe] at HAs hYm
                  clear hYe
                  have m0 : (m == 0) = false := by simp; omega
                  have m1 : ¬ m = 0 := by omega
                  have l1 := cell_lt cz
                  have l2 := cell_lt cy
                  have l3 := cell_lt ez
                  have l4 := cell_lt ey
                  generalize X % m = X1 at hXm t2 t3 HAs
                  go_wp2_with (at_make; go_loud (refine mkI _ rfl _ _ rfl _ _ _ k rfl rfl rfl (by omega) ?_; intro w6 hown hb6 hs6))
                  have hz6 : wr.heap.size < w6.heap.size := by omega
                  have hc6 := hown.cell (k := s1) (rep_get k s1 0 g4)
                  have hf6 := hown.fz s1
                  clear hs6
                  go_wp2_with fail
                  have hd0 : Below w6.heap.size w6 w6.drew := (Below.refl _ _).drew
                  have hsd0 := hd0.size
                  have f0_a := keep_cell hd0 (Nat.le_refl _) hc6
                  have f0_b := (hown.below hd0).fz s1
                  refine wp_region_K (S := fun w' => w'.cell? ⟨wr.heap.size, s1, none⟩ = some (.int .i64 0)) [21] (by kernel_rfl) ?_
                  have hHeld : (fun w' : World => w'.cell? ⟨wr.heap.size, s1, none⟩ = some (.int .i64 0)) w6.drew := by go_keep
                  refine' wpAnyK_takeL (i := 0) (v := _) rfl (by kernel_rfl) (by kernel_rfl) (by kernel_rfl) (by kernel_rfl) (fun _ _ _ h => h) (Or.inl ⟨by rfl, ?yT1⟩) hHeld ?rT1
                  case yT1 => (intro w' hSw; (try dsimp only at hSw); go_simp; try with_reducible rfl)
                  try simp only [List.getElem_toArray, List.getElem_cons_zero, List.getElem_cons_succ, Act.put, List.setIfInBounds_toArray, List.set_cons_zero, List.set_cons_succ]
                  refine' wpAnyK_takeL (i := 1) (v := _) rfl (by kernel_rfl) (by kernel_rfl) (by kernel_rfl) (by kernel_rfl) (fun _ _ _ h => h) (Or.inl ⟨by rfl, ?yT2⟩) hHeld ?rT2
                  case yT2 => (intro w' hSw; (try dsimp only at hSw); go_simp; try with_reducible rfl)
                  try simp only [List.getElem_toArray, List.getElem_cons_zero, List.getElem_cons_succ, Act.put, List.setIfInBounds_toArray, List.set_cons_zero, List.set_cons_succ]
                  refine' wpAnyK_takeL (i := 2) (v := _) rfl (by kernel_rfl) (by kernel_rfl) (by kernel_rfl) (by kernel_rfl) (fun _ _ _ h => h) (Or.inl ⟨by rfl, ?yT3⟩) hHeld ?rT3
                  case yT3 => (intro w' hSw; (try dsimp only at hSw); go_simp; try with_reducible rfl)
                  try simp only [List.getElem_toArray, List.getElem_cons_zero, List.getElem_cons_succ, Act.put, List.setIfInBounds_toArray, List.set_cons_zero, List.set_cons_succ]
                  refine' wpAnyK_takeL (i := 3) (v := _) rfl (by kernel_rfl) (by kernel_rfl) (by kernel_rfl) (by kernel_rfl) (fun _ _ _ h => h) (Or.inl ⟨by rfl, ?yT4⟩) hHeld ?rT4
                  case yT4 => (intro w' hSw; (try dsimp only at hSw); go_simp; try with_reducible rfl)
                  try simp only [List.getElem_toArray, List.getElem_cons_zero, List.getElem_cons_succ, Act.put, List.setIfInBounds_toArray, List.set_cons_zero, List.set_cons_succ]
                  refine' wpAnyK_takeL (i := 4) (v := _) rfl (by kernel_rfl) (by kernel_rfl) (by kernel_rfl) (by kernel_rfl) (fun _ _ _ h => h) (Or.inl ⟨by rfl, ?yT5⟩) hHeld ?rT5
                  case yT5 => (intro w' hSw; (try dsimp only at hSw); go_simp; try with_reducible rfl)
                  try simp only [List.getElem_toArray, List.getElem_cons_zero, List.getElem_cons_succ, Act.put, List.setIfInBounds_toArray, List.set_cons_zero, List.set_cons_succ]
                  refine' wpAnyK_takeL (i := 5) (v := _) rfl (by kernel_rfl) (by kernel_rfl) (by kernel_rfl) (by kernel_rfl) (fun _ _ _ h => h) (Or.inl ⟨by rfl, ?yT6⟩) hHeld ?rT6
                  case yT6 => (intro w' hSw; (try dsimp only at hSw); go_simp; try with_reducible rfl)
                  try simp only [List.getElem_toArray, List.getElem_cons_zero, List.getElem_cons_succ, Act.put, List.setIfInBounds_toArray, List.set_cons_zero, List.set_cons_succ]
                  refine' wpAnyK_takeL (i := 6) (v := _) rfl (by kernel_rfl) (by kernel_rfl) (by kernel_rfl) (by kernel_rfl) (fun _ _ _ h => h) (Or.inl ⟨by rfl, ?yT7⟩) hHeld ?rT7
                  case yT7 => (intro w' hSw; (try dsimp only at hSw); go_simp; try with_reducible rfl)
                  try simp only [List.getElem_toArray, List.getElem_cons_zero, List.getElem_cons_succ, Act.put, List.setIfInBounds_toArray, List.set_cons_zero, List.set_cons_succ]
                  refine' wpAnyK_takeL (i := 7) (v := _) rfl (by kernel_rfl) (by kernel_rfl) (by kernel_rfl) (by kernel_rfl) (fun _ _ _ h => h) (Or.inl ⟨by rfl, ?yT8⟩) hHeld ?rT8
                  case yT8 => (intro w' hSw; (try dsimp only at hSw); go_simp; try with_reducible rfl)
                  try simp only [List.getElem_toArray, List.getElem_cons_zero, List.getElem_cons_succ, Act.put, List.setIfInBounds_toArray, List.set_cons_zero, List.set_cons_succ]
                  refine' wpAnyK_takeL (i := 8) (v := _) rfl (by kernel_rfl) (by kernel_rfl) (by kernel_rfl) (by kernel_rfl) (fun _ _ _ h => h) (Or.inl ⟨by rfl, ?yT9⟩) hHeld ?rT9
                  case yT9 => (intro w' hSw; (try dsimp only at hSw); go_simp; try with_reducible rfl)
                  try simp only [List.getElem_toArray, List.getElem_cons_zero, List.getElem_cons_succ, Act.put, List.setIfInBounds_toArray, List.set_cons_zero, List.set_cons_succ]
                  refine' wpAnyK_takeL (i := 9) (v := _) rfl (by kernel_rfl) (by kernel_rfl) (by kernel_rfl) (by kernel_rfl) (fun _ _ _ h => h) (Or.inl ⟨by rfl, ?yT10⟩) hHeld ?rT10
                  case yT10 => (intro w' hSw; (try dsimp only at hSw); go_simp; try with_reducible rfl)
                  try simp only [List.getElem_toArray, List.getElem_cons_zero, List.getElem_cons_succ, Act.put, List.setIfInBounds_toArray, List.set_cons_zero, List.set_cons_succ]
                  refine' wpAnyK_takeL (i := 10) (v := _) rfl (by kernel_rfl) (by kernel_rfl) (by kernel_rfl) (by kernel_rfl) (fun _ _ _ h => h) (Or.inl ⟨by rfl, ?yT11⟩) hHeld ?rT11
                  case yT11 => (intro w' hSw; (try dsimp only at hSw); go_simp; try with_reducible rfl)
                  try simp only [List.getElem_toArray, List.getElem_cons_zero, List.getElem_cons_succ, Act.put, List.setIfInBounds_toArray, List.set_cons_zero, List.set_cons_succ]
                  refine' wpAnyK_takeL (i := 11) (v := _) rfl (by kernel_rfl) (by kernel_rfl) (by kernel_rfl) (by kernel_rfl) (fun _ _ _ h => h) (Or.inl ⟨by rfl, ?yT12⟩) hHeld ?rT12
                  case yT12 => (intro w' hSw; (try dsimp only at hSw); go_simp; try with_reducible rfl)
                  try simp only [List.getElem_toArray, List.getElem_cons_zero, List.getElem_cons_succ, Act.put, List.setIfInBounds_toArray, List.set_cons_zero, List.set_cons_succ]
                  refine' wpAnyK_takeL (i := 12) (v := _) rfl (by kernel_rfl) (by kernel_rfl) (by kernel_rfl) (by kernel_rfl) (fun _ _ _ h => h) (Or.inl ⟨by rfl, ?yT13⟩) hHeld ?rT13
                  case yT13 => (intro w' hSw; (try dsimp only at hSw); go_simp; try with_reducible rfl)
                  try simp only [List.getElem_toArray, List.getElem_cons_zero, List.getElem_cons_succ, Act.put, List.setIfInBounds_toArray, List.set_cons_zero, List.set_cons_succ]
                  refine' wpAnyK_takeL (i := 13) (v := _) rfl (by kernel_rfl) (by kernel_rfl) (by kernel_rfl) (by kernel_rfl) (fun _ _ _ h => h) (Or.inl ⟨by rfl, ?yT14⟩) hHeld ?rT14
                  case yT14 => (intro w' hSw; (try dsimp only at hSw); go_simp; try with_reducible rfl)
                  try simp only [List.getElem_toArray, List.getElem_cons_zero, List.getElem_cons_succ, Act.put, List.setIfInBounds_toArray, List.set_cons_zero, List.set_cons_succ]
                  refine' wpAnyK_takeL (i := 14) (v := _) rfl (by kernel_rfl) (by kernel_rfl) (by kernel_rfl) (by kernel_rfl) (fun _ _ _ h => h) (Or.inl ⟨by rfl, ?yT15⟩) hHeld ?rT15
                  case yT15 => (intro w' hSw; (try dsimp only at hSw); go_simp; try with_reducible rfl)
                  try simp only [List.getElem_toArray, List.getElem_cons_zero, List.getElem_cons_succ, Act.put, List.setIfInBounds_toArray, List.set_cons_zero, List.set_cons_succ]
                  refine' wpAnyK_takeL (i := 15) (v := _) rfl (by kernel_rfl) (by kernel_rfl) (by kernel_rfl) (by kernel_rfl) (fun _ _ _ h => h) (Or.inl ⟨by rfl, ?yT16⟩) hHeld ?rT16
                  case yT16 => (intro w' hSw; (try dsimp only at hSw); go_simp; try with_reducible rfl)
                  try simp only [List.getElem_toArray, List.getElem_cons_zero, List.getElem_cons_succ, Act.put, List.setIfInBounds_toArray, List.set_cons_zero, List.set_cons_succ]
                  refine' wpAnyK_takeL (i := 18) (v := _) rfl (by kernel_rfl) (by kernel_rfl) (by kernel_rfl) (by kernel_rfl) (fun _ _ _ h => h) (Or.inl ⟨by rfl, ?yT17⟩) hHeld ?rT17
                  case yT17 => (intro w' hSw; (try dsimp only at hSw); go_simp; try with_reducible rfl)
                  try simp only [List.getElem_toArray, List.getElem_cons_zero, List.getElem_cons_succ, Act.put, List.setIfInBounds_toArray, List.set_cons_zero, List.set_cons_succ]
                  refine wpAnyK_oneL (i := 16) rfl (by kernel_rfl) (fun K hK => ?_)
                  go_simp
                  go_at_call 46
                  refine (HB1.out _).mono ?_
                  rintro e wd1 ⟨rfl, hbd1⟩
                  have hd1 : Below w6.heap.size w6 wd1 := (by (repeat (first | exact bR _ _ | (refine bS ?_ _) | (refine bA ?_ _) | (refine bN ?_ _) | (refine bD ?_) | (refine bT ?_ hbd1))))
                  have hsd1 := hd1.size
                  have hsz1_ := hbd1.size
                  (try simp at hsz1_)
                  have f1_a := keep_cell hd1 (Nat.le_refl _) hc6
                  have f1_b := (hown.below hd1).fz s1
                  go_wp2_with fail
                  clear hHeld
                  have hHeld : (fun w' : World => w'.cell? ⟨wr.heap.size, s1, none⟩ = some (.int .i64 0)) wd1 := by go_keep
                  refine hK.out _ _ (fun _ => hHeld) ?_
                  clear hK K
                  try simp only [List.getElem_toArray, List.getElem_cons_zero, List.getElem_cons_succ, Act.put, List.setIfInBounds_toArray, List.set_cons_zero, List.set_cons_succ]
                  refine' wpAnyK_takeL (i := 17) (v := _) rfl (by kernel_rfl) (by kernel_rfl) (by kernel_rfl) (by kernel_rfl) (fun _ _ _ h => h) (Or.inl ⟨by rfl, ?yT18⟩) hHeld ?rT18
                  case yT18 => (intro w' hSw; (try dsimp only at hSw); go_simp; try with_reducible rfl)
                  try simp only [List.getElem_toArray, List.getElem_cons_zero, List.getElem_cons_succ, Act.put, List.setIfInBounds_toArray, List.set_cons_zero, List.set_cons_succ]
                  refine' wpAnyK_takeL (i := 19) (v := _) rfl (by kernel_rfl) (by kernel_rfl) (by kernel_rfl) (by kernel_rfl) (fun _ _ _ h => h) (Or.inl ⟨by rfl, ?yT19⟩) hHeld ?rT19
                  case yT19 => (intro w' hSw; (try dsimp only at hSw); go_simp; try with_reducible rfl)
                  try simp only [List.getElem_toArray, List.getElem_cons_zero, List.getElem_cons_succ, Act.put, List.setIfInBounds_toArray, List.set_cons_zero, List.set_cons_succ]
                  refine' wpAnyK_takeL (i := 20) (v := _) rfl (by kernel_rfl) (by kernel_rfl) (by kernel_rfl) (by kernel_rfl) (fun _ _ _ h => h) (Or.inl ⟨by rfl, ?yT20⟩) hHeld ?rT20
                  case yT20 => (intro w' hSw; (try dsimp only at hSw); go_simp; try with_reducible rfl)
                  try simp only [List.getElem_toArray, List.getElem_cons_zero, List.getElem_cons_succ, Act.put, List.setIfInBounds_toArray, List.set_cons_zero, List.set_cons_succ]
                  refine wpAnyK_oneL (i := 21) rfl (by kernel_rfl) (fun K hK => ?_)
                  go_simp
                  (try go_wp2_with fail)
                  refine hK.out _ _ (fun h => absurd h (by decide)) ?_
                  clear hK K
                  try simp only [List.getElem_toArray, List.getElem_cons_zero, List.getElem_cons_succ, Act.put, List.setIfInBounds_toArray, List.set_cons_zero, List.set_cons_succ]
                  refine wpAnyK_done (by kernel_rfl) ?_ _
                  go_wp2_with fail
                  have hO7 := (hown.below hd1).put s1 X1
                  have hb7 : Below wr.heap.size wr (wd1.setCell ⟨wr.heap.size, s1, none⟩ (.int .i64 X1)) := below_put (hb6.trans (hd1.mono (by omega))) (Nat.le_refl _) _
                  generalize wd1.setCell ⟨wr.heap.size, s1, none⟩ (.int .i64 X1) = w7 at hO7 hb7 ⊢
                  clear hHeld f0_a f1_a f0_b f1_b hd0 hd1 hsd0 hsd1 hsz1_ hc6 hf6 hown
                  have hb7s := hb7.size
                  have hc7 := hO7.cell (k := q) (x := 0) (by rw [List.getElem?_set, if_neg (by omega)]; exact rep_get k q 0 g6)
                  have hf7 := hO7.fz q
                  go_wp2_with fail
                  have hd0 : Below w7.heap.size w7 w7.drew := (Below.refl _ _).drew
                  have hsd0 := hd0.size
                  have f0_a := keep_cell hd0 (Nat.le_refl _) hc7
                  have f0_b := (hO7.below hd0).fz q
                  refine wp_region_K (S := fun w' => w'.cell? ⟨wr.heap.size, q, none⟩ = some (.int .i64 0)) [17] (by kernel_rfl) ?_
                  have hHeld : (fun w' : World => w'.cell? ⟨wr.heap.size, q, none⟩ = some (.int .i64 0)) w7.drew := by go_keep
                  refine' wpAnyK_takeL (i := 0) (v := _) rfl (by kernel_rfl) (by kernel_rfl) (by kernel_rfl) (by kernel_rfl) (fun _ _ _ h => h) (Or.inl ⟨by rfl, ?yT21⟩) hHeld ?rT21
                  case yT21 => (intro w' hSw; (try dsimp only at hSw); go_simp; try with_reducible rfl)
                  try simp only [List.getElem_toArray, List.getElem_cons_zero, List.getElem_cons_succ, Act.put, List.setIfInBounds_toArray, List.set_cons_zero, List.set_cons_succ]
                  refine' wpAnyK_takeL (i := 1) (v := _) rfl (by kernel_rfl) (by kernel_rfl) (by kernel_rfl) (by kernel_rfl) (fun _ _ _ h => h) (Or.inl ⟨by rfl, ?yT22⟩) hHeld ?rT22
                  case yT22 => (intro w' hSw; (try dsimp only at hSw); go_simp; try with_reducible rfl)
                  try simp only [List.getElem_toArray, List.getElem_cons_zero, List.getElem_cons_succ, Act.put, List.setIfInBounds_toArray, List.set_cons_zero, List.set_cons_succ]
                  refine' wpAnyK_takeL (i := 2) (v := _) rfl (by kernel_rfl) (by kernel_rfl) (by kernel_rfl) (by kernel_rfl) (fun _ _ _ h => h) (Or.inl ⟨by rfl, ?yT23⟩) hHeld ?rT23
                  case yT23 => (intro w' hSw; (try dsimp only at hSw); go_simp; try with_reducible rfl)
                  try simp only [List.getElem_toArray, List.getElem_cons_zero, List.getElem_cons_succ, Act.put, List.setIfInBounds_toArray, List.set_cons_zero, List.set_cons_succ]
                  refine' wpAnyK_takeL (i := 3) (v := _) rfl (by kernel_rfl) (by kernel_rfl) (by kernel_rfl) (by kernel_rfl) (fun _ _ _ h => h) (Or.inl ⟨by rfl, ?yT24⟩) hHeld ?rT24
                  case yT24 => (intro w' hSw; (try dsimp only at hSw); go_simp; try with_reducible rfl)
                  try simp only [List.getElem_toArray, List.getElem_cons_zero, List.getElem_cons_succ, Act.put, List.setIfInBounds_toArray, List.set_cons_zero, List.set_cons_succ]
                  refine' wpAnyK_takeL (i := 4) (v := _) rfl (by kernel_rfl) (by kernel_rfl) (by kernel_rfl) (by kernel_rfl) (fun _ _ _ h => h) (Or.inl ⟨by rfl, ?yT25⟩) hHeld ?rT25
                  case yT25 => (intro w' hSw; (try dsimp only at hSw); go_simp; try with_reducible rfl)
                  try simp only [List.getElem_toArray, List.getElem_cons_zero, List.getElem_cons_succ, Act.put, List.setIfInBounds_toArray, List.set_cons_zero, List.set_cons_succ]
                  refine' wpAnyK_takeL (i := 5) (v := _) rfl (by kernel_rfl) (by kernel_rfl) (by kernel_rfl) (by kernel_rfl) (fun _ _ _ h => h) (Or.inl ⟨by rfl, ?yT26⟩) hHeld ?rT26
                  case yT26 => (intro w' hSw; (try dsimp only at hSw); go_simp; try with_reducible rfl)
                  try simp only [List.getElem_toArray, List.getElem_cons_zero, List.getElem_cons_succ, Act.put, List.setIfInBounds_toArray, List.set_cons_zero, List.set_cons_succ]
                  refine' wpAnyK_takeL (i := 6) (v := _) rfl (by kernel_rfl) (by kernel_rfl) (by kernel_rfl) (by kernel_rfl) (fun _ _ _ h => h) (Or.inl ⟨by rfl, ?yT27⟩) hHeld ?rT27
                  case yT27 => (intro w' hSw; (try dsimp only at hSw); go_simp; try with_reducible rfl)
                  try simp only [List.getElem_toArray, List.getElem_cons_zero, List.getElem_cons_succ, Act.put, List.setIfInBounds_toArray, List.set_cons_zero, List.set_cons_succ]
                  refine' wpAnyK_takeL (i := 7) (v := _) rfl (by kernel_rfl) (by kernel_rfl) (by kernel_rfl) (by kernel_rfl) (fun _ _ _ h => h) (Or.inl ⟨by rfl, ?yT28⟩) hHeld ?rT28
                  case yT28 => (intro w' hSw; (try dsimp only at hSw); go_simp; try with_reducible rfl)
                  try simp only [List.getElem_toArray, List.getElem_cons_zero, List.getElem_cons_succ, Act.put, List.setIfInBounds_toArray, List.set_cons_zero, List.set_cons_succ]
                  refine' wpAnyK_takeL (i := 8) (v := _) rfl (by kernel_rfl) (by kernel_rfl) (by kernel_rfl) (by kernel_rfl) (fun _ _ _ h => h) (Or.inl ⟨by rfl, ?yT29⟩) hHeld ?rT29
                  case yT29 => (intro w' hSw; (try dsimp only at hSw); go_simp; try with_reducible rfl)
                  try simp only [List.getElem_toArray, List.getElem_cons_zero, List.getElem_cons_succ, Act.put, List.setIfInBounds_toArray, List.set_cons_zero, List.set_cons_succ]
                  refine' wpAnyK_takeL (i := 9) (v := _) rfl (by kernel_rfl) (by kernel_rfl) (by kernel_rfl) (by kernel_rfl) (fun _ _ _ h => h) (Or.inl ⟨by rfl, ?yT30⟩) hHeld ?rT30
                  case yT30 => (intro w' hSw; (try dsimp only at hSw); go_simp; try with_reducible rfl)
                  try simp only [List.getElem_toArray, List.getElem_cons_zero, List.getElem_cons_succ, Act.put, List.setIfInBounds_toArray, List.set_cons_zero, List.set_cons_succ]
                  refine' wpAnyK_takeL (i := 10) (v := _) rfl (by kernel_rfl) (by kernel_rfl) (by kernel_rfl) (by kernel_rfl) (fun _ _ _ h => h) (Or.inl ⟨by rfl, ?yT31⟩) hHeld ?rT31
                  case yT31 => (intro w' hSw; (try dsimp only at hSw); go_simp; try with_reducible rfl)
                  try simp only [List.getElem_toArray, List.getElem_cons_zero, List.getElem_cons_succ, Act.put, List.setIfInBounds_toArray, List.set_cons_zero, List.set_cons_succ]
                  refine' wpAnyK_takeL (i := 11) (v := _) rfl (by kernel_rfl) (by kernel_rfl) (by kernel_rfl) (by kernel_rfl) (fun _ _ _ h => h) (Or.inl ⟨by rfl, ?yT32⟩) hHeld ?rT32
                  case yT32 => (intro w' hSw; (try dsimp only at hSw); go_simp; try with_reducible rfl)
                  try simp only [List.getElem_toArray, List.getElem_cons_zero, List.getElem_cons_succ, Act.put, List.setIfInBounds_toArray, List.set_cons_zero, List.set_cons_succ]
                  refine' wpAnyK_takeL (i := 12) (v := _) rfl (by kernel_rfl) (by kernel_rfl) (by kernel_rfl) (by kernel_rfl) (fun _ _ _ h => h) (Or.inl ⟨by rfl, ?yT33⟩) hHeld ?rT33
                  case yT33 => (intro w' hSw; (try dsimp only at hSw); go_simp; try with_reducible rfl)
                  try simp only [List.getElem_toArray, List.getElem_cons_zero, List.getElem_cons_succ, Act.put, List.setIfInBounds_toArray, List.set_cons_zero, List.set_cons_succ]
                  refine wpAnyK_oneL (i := 13) rfl (by kernel_rfl) (fun K hK => ?_)
                  go_simp
                  go_at_call 46
                  refine (HB2.out _).mono ?_
                  rintro e wd1 ⟨rfl, hbd1⟩
                  have hd1 : Below w7.heap.size w7 wd1 := (by (repeat (first | exact bR _ _ | (refine bS ?_ _) | (refine bA ?_ _) | (refine bN ?_ _) | (refine bD ?_) | (refine bT ?_ hbd1))))
                  have hsd1 := hd1.size
                  have hsz1_ := hbd1.size
                  (try simp at hsz1_)
                  have f1_a := keep_cell hd1 (Nat.le_refl _) hc7
                  have f1_b := (hO7.below hd1).fz q
                  go_wp2_with fail
                  clear hHeld
                  have hHeld : (fun w' : World => w'.cell? ⟨wr.heap.size, q, none⟩ = some (.int .i64 0)) wd1 := by go_keep
                  refine hK.out _ _ (fun _ => hHeld) ?_
                  clear hK K
                  try simp only [List.getElem_toArray, List.getElem_cons_zero, List.getElem_cons_succ, Act.put, List.setIfInBounds_toArray, List.set_cons_zero, List.set_cons_succ]
                  refine' wpAnyK_takeL (i := 14) (v := _) rfl (by kernel_rfl) (by kernel_rfl) (by kernel_rfl) (by kernel_rfl) (fun _ _ _ h => h) (Or.inl ⟨by rfl, ?yT34⟩) hHeld ?rT34
                  case yT34 => (intro w' hSw; (try dsimp only at hSw); go_simp; try with_reducible rfl)
                  try simp only [List.getElem_toArray, List.getElem_cons_zero, List.getElem_cons_succ, Act.put, List.setIfInBounds_toArray, List.set_cons_zero, List.set_cons_succ]
                  refine wpAnyK_oneL (i := 15) rfl (by kernel_rfl) (fun K hK => ?_)
                  go_simp
                  go_at_call 50
                  refine (l01Mod_c (-Y) m _ (by omega) (by omega) (by omega) (by omega)).mono ?_
                  rintro e w' ⟨rfl, rfl⟩
                  go_wp2_with fail
                  refine hK.out _ _ (fun _ => hHeld) ?_
                  clear hK K
                  try simp only [List.getElem_toArray, List.getElem_cons_zero, List.getElem_cons_succ, Act.put, List.setIfInBounds_toArray, List.set_cons_zero, List.set_cons_succ]
                  refine' wpAnyK_takeL (i := 16) (v := _) rfl (by kernel_rfl) (by kernel_rfl) (by kernel_rfl) (by kernel_rfl) (fun _ _ _ h => h) (Or.inl ⟨by rfl, ?yT35⟩) hHeld ?rT35
                  case yT35 => (intro w' hSw; (try dsimp only at hSw); go_simp; try with_reducible rfl)
                  try simp only [List.getElem_toArray, List.getElem_cons_zero, List.getElem_cons_succ, Act.put, List.setIfInBounds_toArray, List.set_cons_zero, List.set_cons_succ]
                  refine wpAnyK_oneL (i := 17) rfl (by kernel_rfl) (fun K hK => ?_)
                  go_simp
                  (try go_wp2_with fail)
                  refine hK.out _ _ (fun h => absurd h (by decide)) ?_
                  clear hK K
                  try simp only [List.getElem_toArray, List.getElem_cons_zero, List.getElem_cons_succ, Act.put, List.setIfInBounds_toArray, List.set_cons_zero, List.set_cons_succ]
                  refine wpAnyK_done (by kernel_rfl) ?_ _
                  go_wp2_with fail
                  have hO8 := (hO7.below hd1).put q ((-Y) % m)
                  have hb8 : Below wr.heap.size wr (wd1.setCell ⟨wr.heap.size, q, none⟩ (.int .i64 ((-Y) % m))) := below_put (hb7.trans (hd1.mono (by omega))) (Nat.le_refl _) _
                  generalize wd1.setCell ⟨wr.heap.size, q, none⟩ (.int .i64 ((-Y) % m)) = w8 at hO8 hb8 ⊢
                  clear hHeld f0_a f1_a f0_b f1_b hd0 hd1 hsd0 hsd1 hsz1_ hc7 hf7 hO7 hb7s hb7
                  have hb8s := hb8.size
                  have hc8 := hO8.cell (k := k1) (x := 0) (by rw [List.getElem?_set, if_neg (by omega), List.getElem?_set, if_neg (by omega)]; exact rep_get k k1 0 g8)
                  have hf8 := hO8.fz k1
                  have cz8 := keep_cell hb8 (Nat.le_refl _) cz
                  have ez8 := keep_cell hb8 (Nat.le_refl _) ez
                  have cy8 := keep_cell hb8 (Nat.le_refl _) cy
                  have ey8 := keep_cell hb8 (Nat.le_refl _) ey
                  go_wp2_with fail
                  have hd0 : Below w8.heap.size w8 w8.drew := (Below.refl _ _).drew
                  have hsd0 := hd0.size
                  refine wp_region_K (S := fun w' => w'.cell? ⟨b3, f3' + b, none⟩ = some (.slice (some ⟨b5, f5', none⟩) (k + 1 - b) q3) ∧ w'.cell? ⟨b5, f5' + (p + 1), none⟩ = some (.int .i64 RG) ∧ w'.cell? ⟨b2', f2' + (q + 1), none⟩ = some (.slice (some ⟨b4, f4', none⟩) (k + 1 - (q + 1)) q2) ∧ w'.cell? ⟨b4, f4' + b, none⟩ = some (.int .i64 LF)) [21] (by kernel_rfl) ?_
                  have hHeld : (fun w' : World => w'.cell? ⟨b3, f3' + b, none⟩ = some (.slice (some ⟨b5, f5', none⟩) (k + 1 - b) q3) ∧ w'.cell? ⟨b5, f5' + (p + 1), none⟩ = some (.int .i64 RG) ∧ w'.cell? ⟨b2', f2' + (q + 1), none⟩ = some (.slice (some ⟨b4, f4', none⟩) (k + 1 - (q + 1)) q2) ∧ w'.cell? ⟨b4, f4' + b, none⟩ = some (.int .i64 LF)) w8.drew := by go_keep
                  refine' wpAnyK_takeL (i := 0) (v := _) rfl (by kernel_rfl) (by kernel_rfl) (by kernel_rfl) (by kernel_rfl) (fun _ _ _ h => h) (Or.inl ⟨by rfl, ?yT36⟩) hHeld ?rT36
                  case yT36 => (intro w' hSw; (try dsimp only at hSw); go_simp; try with_reducible rfl)
                  try simp only [List.getElem_toArray, List.getElem_cons_zero, List.getElem_cons_succ, Act.put, List.setIfInBounds_toArray, List.set_cons_zero, List.set_cons_succ]
                  refine' wpAnyK_takeL (i := 1) (v := _) rfl (by kernel_rfl) (by kernel_rfl) (by kernel_rfl) (by kernel_rfl) (fun _ _ _ h => h) (Or.inl ⟨by rfl, ?yT37⟩) hHeld ?rT37
                  case yT37 => (intro w' hSw; (try dsimp only at hSw); go_simp; try with_reducible rfl)
                  try simp only [List.getElem_toArray, List.getElem_cons_zero, List.getElem_cons_succ, Act.put, List.setIfInBounds_toArray, List.set_cons_zero, List.set_cons_succ]
                  refine' wpAnyK_takeL (i := 2) (v := _) rfl (by kernel_rfl) (by kernel_rfl) (by kernel_rfl) (by kernel_rfl) (fun _ _ _ h => h) (Or.inl ⟨by rfl, ?yT38⟩) hHeld ?rT38
                  case yT38 => (intro w' hSw; (try dsimp only at hSw); go_simp; try with_reducible rfl)
                  try simp only [List.getElem_toArray, List.getElem_cons_zero, List.getElem_cons_succ, Act.put, List.setIfInBounds_toArray, List.set_cons_zero, List.set_cons_succ]
                  refine' wpAnyK_takeL (i := 3) (v := _) rfl (by kernel_rfl) (by kernel_rfl) (by kernel_rfl) (by kernel_rfl) (fun _ _ _ h => h) (Or.inl ⟨by rfl, ?yT39⟩) hHeld ?rT39
                  case yT39 => (intro w' hSw; (try dsimp only at hSw); go_simp; try with_reducible rfl)
                  try simp only [List.getElem_toArray, List.getElem_cons_zero, List.getElem_cons_succ, Act.put, List.setIfInBounds_toArray, List.set_cons_zero, List.set_cons_succ]
                  refine' wpAnyK_takeL (i := 4) (v := _) rfl (by kernel_rfl) (by kernel_rfl) (by kernel_rfl) (by kernel_rfl) (fun _ _ _ h => h) (Or.inl ⟨by rfl, ?yT40⟩) hHeld ?rT40
                  case yT40 => (intro w' hSw; (try dsimp only at hSw); go_simp; try with_reducible rfl)
                  try simp only [List.getElem_toArray, List.getElem_cons_zero, List.getElem_cons_succ, Act.put, List.setIfInBounds_toArray, List.set_cons_zero, List.set_cons_succ]
                  refine' wpAnyK_takeL (i := 5) (v := _) rfl (by kernel_rfl) (by kernel_rfl) (by kernel_rfl) (by kernel_rfl) (fun _ _ _ h => h) (Or.inl ⟨by rfl, ?yT41⟩) hHeld ?rT41
                  case yT41 => (intro w' hSw; (try dsimp only at hSw); go_simp; try with_reducible rfl)
                  try simp only [List.getElem_toArray, List.getElem_cons_zero, List.getElem_cons_succ, Act.put, List.setIfInBounds_toArray, List.set_cons_zero, List.set_cons_succ]
                  refine' wpAnyK_takeL (i := 6) (v := _) rfl (by kernel_rfl) (by kernel_rfl) (by kernel_rfl) (by kernel_rfl) (fun _ _ _ h => h) (Or.inl ⟨by rfl, ?yT42⟩) hHeld ?rT42
                  case yT42 => (intro w' hSw; (try dsimp only at hSw); go_simp; try with_reducible rfl)
                  try simp only [List.getElem_toArray, List.getElem_cons_zero, List.getElem_cons_succ, Act.put, List.setIfInBounds_toArray, List.set_cons_zero, List.set_cons_succ]
                  refine' wpAnyK_takeL (i := 7) (v := _) rfl (by kernel_rfl) (by kernel_rfl) (by kernel_rfl) (by kernel_rfl) (fun _ _ _ h => h) (Or.inl ⟨by rfl, ?yT43⟩) hHeld ?rT43
                  case yT43 => (intro w' hSw; (try dsimp only at hSw); go_simp; try with_reducible rfl)
                  try simp only [List.getElem_toArray, List.getElem_cons_zero, List.getElem_cons_succ, Act.put, List.setIfInBounds_toArray, List.set_cons_zero, List.set_cons_succ]
                  refine' wpAnyK_takeL (i := 8) (v := _) rfl (by kernel_rfl) (by kernel_rfl) (by kernel_rfl) (by kernel_rfl) (fun _ _ _ h => h) (Or.inl ⟨by rfl, ?yT44⟩) hHeld ?rT44
                  case yT44 => (intro w' hSw; (try dsimp only at hSw); go_simp; try with_reducible rfl)
                  try simp only [List.getElem_toArray, List.getElem_cons_zero, List.getElem_cons_succ, Act.put, List.setIfInBounds_toArray, List.set_cons_zero, List.set_cons_succ]
                  refine' wpAnyK_takeL (i := 9) (v := _) rfl (by kernel_rfl) (by kernel_rfl) (by kernel_rfl) (by kernel_rfl) (fun _ _ _ h => h) (Or.inl ⟨by rfl, ?yT45⟩) hHeld ?rT45
                  case yT45 => (intro w' hSw; (try dsimp only at hSw); go_simp; try with_reducible rfl)
                  try simp only [List.getElem_toArray, List.getElem_cons_zero, List.getElem_cons_succ, Act.put, List.setIfInBounds_toArray, List.set_cons_zero, List.set_cons_succ]
                  refine' wpAnyK_takeL (i := 10) (v := _) rfl (by kernel_rfl) (by kernel_rfl) (by kernel_rfl) (by kernel_rfl) (fun _ _ _ h => h) (Or.inl ⟨by rfl, ?yT46⟩) hHeld ?rT46
                  case yT46 => (intro w' hSw; (try dsimp only at hSw); go_simp; try with_reducible rfl)
                  try simp only [List.getElem_toArray, List.getElem_cons_zero, List.getElem_cons_succ, Act.put, List.setIfInBounds_toArray, List.set_cons_zero, List.set_cons_succ]
                  refine' wpAnyK_takeL (i := 11) (v := _) rfl (by kernel_rfl) (by kernel_rfl) (by kernel_rfl) (by kernel_rfl) (fun _ _ _ h => h) (Or.inl ⟨by rfl, ?yT47⟩) hHeld ?rT47
                  case yT47 => (intro w' hSw; (try dsimp only at hSw); go_simp; try with_reducible rfl)
                  try simp only [List.getElem_toArray, List.getElem_cons_zero, List.getElem_cons_succ, Act.put, List.setIfInBounds_toArray, List.set_cons_zero, List.set_cons_succ]
                  refine' wpAnyK_takeL (i := 12) (v := _) rfl (by kernel_rfl) (by kernel_rfl) (by kernel_rfl) (by kernel_rfl) (fun _ _ _ h => h) (Or.inl ⟨by rfl, ?yT48⟩) hHeld ?rT48
                  case yT48 => (intro w' hSw; (try dsimp only at hSw); go_simp; try with_reducible rfl)
                  try simp only [List.getElem_toArray, List.getElem_cons_zero, List.getElem_cons_succ, Act.put, List.setIfInBounds_toArray, List.set_cons_zero, List.set_cons_succ]
                  refine' wpAnyK_takeL (i := 13) (v := _) rfl (by kernel_rfl) (by kernel_rfl) (by kernel_rfl) (by kernel_rfl) (fun _ _ _ h => h) (Or.inl ⟨by rfl, ?yT49⟩) hHeld ?rT49
                  case yT49 => (intro w' hSw; (try dsimp only at hSw); go_simp; try with_reducible rfl)
                  try simp only [List.getElem_toArray, List.getElem_cons_zero, List.getElem_cons_succ, Act.put, List.setIfInBounds_toArray, List.set_cons_zero, List.set_cons_succ]
                  refine' wpAnyK_takeL (i := 14) (v := _) rfl (by kernel_rfl) (by kernel_rfl) (by kernel_rfl) (by kernel_rfl) (fun _ _ _ h => h) (Or.inl ⟨by rfl, ?yT50⟩) hHeld ?rT50
                  case yT50 => (intro w' hSw; (try dsimp only at hSw); go_simp; try with_reducible rfl)
                  try simp only [List.getElem_toArray, List.getElem_cons_zero, List.getElem_cons_succ, Act.put, List.setIfInBounds_toArray, List.set_cons_zero, List.set_cons_succ]
                  refine' wpAnyK_takeL (i := 15) (v := _) rfl (by kernel_rfl) (by kernel_rfl) (by kernel_rfl) (by kernel_rfl) (fun _ _ _ h => h) (Or.inl ⟨by rfl, ?yT51⟩) hHeld ?rT51
                  case yT51 => (intro w' hSw; (try dsimp only at hSw); go_simp; try with_reducible rfl)
                  try simp only [List.getElem_toArray, List.getElem_cons_zero, List.getElem_cons_succ, Act.put, List.setIfInBounds_toArray, List.set_cons_zero, List.set_cons_succ]
                  refine' wpAnyK_takeL (i := 16) (v := _) rfl (by kernel_rfl) (by kernel_rfl) (by kernel_rfl) (by kernel_rfl) (fun _ _ _ h => h) (Or.inl ⟨by rfl, ?yT52⟩) hHeld ?rT52
                  case yT52 => (intro w' hSw; (try dsimp only at hSw); go_simp; try with_reducible rfl)
                  try simp only [List.getElem_toArray, List.getElem_cons_zero, List.getElem_cons_succ, Act.put, List.setIfInBounds_toArray, List.set_cons_zero, List.set_cons_succ]
                  refine' wpAnyK_takeL (i := 17) (v := _) rfl (by kernel_rfl) (by kernel_rfl) (by kernel_rfl) (by kernel_rfl) (fun _ _ _ h => h) (Or.inl ⟨by rfl, ?yT53⟩) hHeld ?rT53
                  case yT53 => (intro w' hSw; (try dsimp only at hSw); go_simp; try with_reducible rfl)
                  try simp only [List.getElem_toArray, List.getElem_cons_zero, List.getElem_cons_succ, Act.put, List.setIfInBounds_toArray, List.set_cons_zero, List.set_cons_succ]
                  refine' wpAnyK_takeL (i := 18) (v := _) rfl (by kernel_rfl) (by kernel_rfl) (by kernel_rfl) (by kernel_rfl) (fun _ _ _ h => h) (Or.inl ⟨by rfl, ?yT54⟩) hHeld ?rT54
                  case yT54 => (intro w' hSw; (try dsimp only at hSw); go_simp; try with_reducible rfl)
                  try simp only [List.getElem_toArray, List.getElem_cons_zero, List.getElem_cons_succ, Act.put, List.setIfInBounds_toArray, List.set_cons_zero, List.set_cons_succ]
                  refine wpAnyK_oneL (i := 19) rfl (by kernel_rfl) (fun K hK => ?_)
                  go_simp
                  go_at_call 50
                  refine (l01Mod_c (RG - LF) m _ (by omega) (by omega) (by omega) (by omega)).mono ?_
                  rintro e w' ⟨rfl, rfl⟩
                  go_wp2_with fail
                  refine hK.out _ _ (fun _ => hHeld) ?_
                  clear hK K
                  try simp only [List.getElem_toArray, List.getElem_cons_zero, List.getElem_cons_succ, Act.put, List.setIfInBounds_toArray, List.set_cons_zero, List.set_cons_succ]
                  refine' wpAnyK_takeL (i := 20) (v := _) rfl (by kernel_rfl) (by kernel_rfl) (by kernel_rfl) (by kernel_rfl) (fun _ _ _ h => h) (Or.inl ⟨by rfl, ?yT55⟩) hHeld ?rT55
                  case yT55 => (intro w' hSw; (try dsimp only at hSw); go_simp; try with_reducible rfl)
                  try simp only [List.getElem_toArray, List.getElem_cons_zero, List.getElem_cons_succ, Act.put, List.setIfInBounds_toArray, List.set_cons_zero, List.set_cons_succ]
                  refine wpAnyK_oneL (i := 21) rfl (by kernel_rfl) (fun K hK => ?_)
                  go_simp
                  (try go_wp2_with fail)
                  refine hK.out _ _ (fun h => absurd h (by decide)) ?_
                  clear hK K
                  try simp only [List.getElem_toArray, List.getElem_cons_zero, List.getElem_cons_succ, Act.put, List.setIfInBounds_toArray, List.set_cons_zero, List.set_cons_succ]
                  refine wpAnyK_done (by kernel_rfl) ?_ _
                  have hO9 := (hO8.put k1 ((RG - LF) % m)).below (w' := (w8.setCell ⟨wr.heap.size, k1, none⟩ (.int .i64 ((RG - LF) % m))).drew) (Below.refl _ _).drew
                  have hb9 : Below wr.heap.size wr (w8.setCell ⟨wr.heap.size, k1, none⟩ (.int .i64 ((RG - LF) % m))).drew := (below_put hb8 (Nat.le_refl _) _).drew
                  rw [← HAs.out] at hO9
                  generalize (w8.setCell ⟨wr.heap.size, k1, none⟩ (.int .i64 ((RG - LF) % m))).drew = w9 at hO9 hb9 ⊢
                  clear hHeld hd0 hsd0 hc8 hf8 hO8 hb8s hb8
                  have hb9s := hb9.size
                  go_wp2_with (at_builtin; obtain ⟨W, hW⟩ : ∃ W : World, W = w9.alloc (.cells #[.slice (some ⟨wr.heap.size, 0, none⟩) k k] 34) := ⟨_, rfl⟩; have hWb1 : Below w9.heap.size w9 W := (by rw [hW]; exact (by (repeat (first | exact bR _ _ | (refine bS ?_ _) | (refine bA ?_ _) | (refine bN ?_ _) | (refine bD ?_))))); have hWb : Below wr.heap.size wr W := hb9.trans (hWb1.mono hb9s); have hWz := hWb.size; have hU : OwI W wr.heap.size (.slice (some ⟨wr.heap.size, 0, none⟩) k k) (asR m k t (q + 1) (p + 1)) := hO9.below hWb1; have hC : W.cell? ⟨w9.heap.size, 0, none⟩ = some (.slice (some ⟨wr.heap.size, 0, none⟩) k k) := (by rw [hW]; simp); rw [← hW]; have HW := Lib.hid hW; clear hW; go_loud (refine apQR W rfl _ _ rfl w.heap.size w1.heap.size [] g2 R.length c2 R rfl (OR.below hWb) (by omega) _ _ w9.heap.size rfl hC rfl (hU.rdf hWz (by omega) (by simp; omega)) (by omega) ?_; intro g5' c5 w5 hO5 hgr hb5 hg5))
                  have hS5 : ∀ s', s' ∈ [g5'] → s' ∈ [g2] ∨ W.heap.size ≤ s' ∨ s' < w.heap.size := by intro s' hs'; simp at hs'; subst hs'; rcases hg5 with h | h; exact .inl (by rw [h]; simp); exact .inr (.inl (by omega))
                  have RL5 := (RL.below hWb).grown hgr (S' := [g5']) (by simp) hS5
                  have RT5 := (RT.below hWb).grown hgr (S' := [g5']) (by simp) hS5
                  have RF5 := (RF.below hWb).grown hgr (S' := [g5']) (by simp) hS5
                  have hB5 := (hB.trans (hWb.mono hBs)).trans hb5
                  have hL5 : (R ++ [asR m k t (q + 1) (p + 1)]).length = R.length + 1 := by rw [List.length_append]; rfl
                  have HL5 := Lib.hid hL5
                  rw [← hL5] at hO5
                  clear hL5
                  exact ⟨⟨q + 1, g5', c5, _, by omega, by go_num, by rw [HL5.out], hO5, HPn, by rw [HL5.out]; omega, RL5, RT5, RF5, hB5⟩, by simp [intOf]; omega⟩
                · have i2 : ¬ (q : Int) + 1 + ((p : Int) + 1) < (k : Int) := by omega
                  have e5 : IntKind.i64.wrap ((q : Int) + 1 + ((p : Int) + 1)) = (q : Int) + 1 + ((p : Int) + 1) := IntWalk.i64_in _ (by omega)
                  have HP' := Lib.hid (HP.out.col hlt2)
                  go_wp2
                  exact ⟨⟨p + 1, g2, c2, R, by omega, by go_num, rfl, OR, HP', by omega, RL, RT, hB⟩, by simp [intOf]; omega⟩
            · have i1 : ¬ (p : Int) + 1 < (k : Int) := by omega
              have HP' := Lib.hid (HP.out.all hlt)
              obtain ⟨us, hR⟩ := OR.fix (S' := []) (by simp) (by omega) (by simp)
              have hR2 := hR.rds (by simp)
              have hB2 := hb1.trans (hB.mono hb1s)
              go_wp2
              go_ret
              exact ⟨g2, c2, us, R, rfl, hR2, HP'.out, by omega, hB2⟩
end Go.Proofs.YteijannfbafdpaaGreatDoor
