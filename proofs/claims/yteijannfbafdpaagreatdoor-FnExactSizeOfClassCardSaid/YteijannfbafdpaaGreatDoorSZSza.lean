/- Lemmas. -/
import Derived.Test.YteijannfbafdpaaGreatDoorSZM2
set_option linter.unusedSimpArgs false
set_option linter.unusedVariables false
namespace Go.Proofs.YteijannfbafdpaaGreatDoor

def dt (L : Nat) (r : List Int) (y : Nat → Int) : Int := sumN L (fun i => at0 r i * y i)
def sts (m : Int) (L : Nat) (R : List (List Int)) (y : Nat → Int) : Prop := ∀ r ∈ R, dt L r y % m = 0
def minL (m : Int) (a b : List Int) (k : Int) : List Int := mk a.length (fun i => (at0 a i - k * at0 b i % m) % m)
theorem minL_len (m : Int) (a b : List Int) (k : Int) : (minL m a b k).length = a.length := mk_len _ _
theorem minL_range {m : Int} (hm : 0 < m) {a b : List Int} {k : Int} : ∀ x ∈ minL m a b k, 0 ≤ x ∧ x < m := by
  intro x hx
  obtain ⟨i, _, rfl⟩ := mem_mk hx
  exact mod_lt' hm
theorem minL_at {m : Int} {a b : List Int} {k : Int} {i : Nat} (h : i < a.length) : at0 (minL m a b k) i = (at0 a i - k * at0 b i % m) % m := mk_at h
theorem sumN_lin (L : Nat) (k : Int) (f g : Nat → Int) : sumN L (fun i => f i - k * g i) = sumN L f - k * sumN L g := by
  induction L with
  | zero => simp [sumN]
  | succ L ih => simp only [sumN]; rw [ih, Int.mul_add]; omega
theorem dt_min {m : Int} {L : Nat} {a b : List Int} (hl : a.length = L) (k : Int) (y : Nat → Int) : dt L (minL m a b k) y % m = (dt L a y - k * dt L b y) % m := by
  unfold dt
  rw [← sumN_lin]
  refine sumN_mod fun i hi => ?_
  rw [minL_at (by omega)]
  have e : at0 a i * y i - k * (at0 b i * y i) = (at0 a i - k * at0 b i) * y i := by rw [Int.sub_mul, Int.mul_assoc]
  rw [e]
  refine emod_congr_mul ?_ rfl
  rw [emod_idem]
  exact emod_congr_sub rfl (emod_idem _ _)
theorem dt_rep (L n : Nat) (y : Nat → Int) : dt L (List.replicate n 0) y = 0 := sumN_zero fun i _ => by rw [at0_rep, Int.zero_mul]
theorem dt_min0 {m : Int} {L : Nat} {r p : List Int} (hl : r.length = L) {k : Int} {y : Nat → Int} (hp : dt L p y % m = 0) : dt L (minL m r p k) y % m = 0 ↔ dt L r y % m = 0 := by
  rw [dt_min hl, Int.sub_emod, Int.mul_emod, hp, Int.mul_zero, Int.zero_emod, Int.sub_zero, emod_idem]
def pv (m : Int) (L : Nat) (p : List Int) (y : Nat → Int) : Prop := p = [] ∨ dt L p y % m = 0
structure Rw (m : Int) (L j : Nat) (r : List Int) : Prop where
  len : r.length = L
  rng : ∀ x ∈ r, 0 ≤ x ∧ x < m
  zer : ∀ k, j < k → k + 1 < L → at0 r k = 0
theorem Rw.at {m : Int} {L j : Nat} {r : List Int} (h : Rw m L j r) (hm : 0 < m) (i : Nat) : 0 ≤ at0 r i ∧ at0 r i < m := by
  by_cases hi : i < r.length
  · exact h.rng _ (by rw [at0_get hi]; exact List.getElem_mem hi)
  · rw [at0_out (by omega)]; omega
theorem Rw.zero {m : Int} {L j : Nat} (hm : 0 < m) : Rw m L j (List.replicate L 0) :=
  ⟨List.length_replicate, fun x hx => by have := (List.mem_replicate.1 hx).2; omega, fun k _ _ => at0_rep _ _⟩
theorem Rw.min {m : Int} {L j : Nat} {a b : List Int} (hm : 0 < m) (ha : Rw m L j a) (hb : Rw m L j b) (k : Int) : Rw m L j (minL m a b k) :=
  ⟨by rw [minL_len]; exact ha.len, minL_range hm, fun i h1 h2 => by rw [minL_at (by rw [ha.len]; omega), ha.zer i h1 h2, hb.zer i h1 h2]; simp⟩
theorem Rw.ne {m : Int} {L j : Nat} {a : List Int} (ha : Rw m L j a) (h : 0 < L) : a ≠ [] := fun e => by have := ha.len; rw [e] at this; simp at this; omega
structure Eua (m : Int) (L j : Nat) (p0 r0 p r : List Int) : Prop where
  rr : Rw m L j r
  pp : p = [] ∨ (Rw m L j p ∧ at0 p j ≠ 0)
  eq : ∀ y, (pv m L p y ∧ dt L r y % m = 0) ↔ (pv m L p0 y ∧ dt L r0 y % m = 0)
theorem Eua.start {m : Int} {L j : Nat} {p r : List Int} (hr : Rw m L j r) (hp : p = [] ∨ (Rw m L j p ∧ at0 p j ≠ 0)) : Eua m L j p r p r := ⟨hr, hp, fun _ => Iff.rfl⟩
theorem Eua.first {m : Int} {L j : Nat} {p0 r0 r : List Int} (hm : 0 < m) (hL : 0 < L) (h : Eua m L j p0 r0 [] r) (h0 : at0 r j ≠ 0) : Eua m L j p0 r0 r (List.replicate L 0) := by
  refine ⟨Rw.zero hm, .inr ⟨h.rr, h0⟩, fun y => ?_⟩
  rw [← h.eq y]
  constructor
  · rintro ⟨h1, -⟩
    refine ⟨.inl rfl, ?_⟩
    rcases h1 with h1 | h1
    · exact absurd h1 (h.rr.ne hL)
    · exact h1
  · rintro ⟨-, h1⟩
    exact ⟨.inr h1, by rw [dt_rep, Int.zero_emod]⟩
theorem Eua.sub {m : Int} {L j : Nat} {p0 r0 p r : List Int} (hm : 0 < m) (hp : p ≠ []) (h : Eua m L j p0 r0 p r) (k : Int) : Eua m L j p0 r0 p (minL m r p k) := by
  obtain ⟨hr, hpp, he⟩ := h
  rcases hpp with e | ⟨h1, h2⟩
  · exact absurd e hp
  refine ⟨hr.min hm h1 k, .inr ⟨h1, h2⟩, fun y => ?_⟩
  rw [← he y]
  constructor
  · rintro ⟨a, b⟩
    refine ⟨a, ?_⟩
    rcases a with a | a
    · exact absurd a hp
    · exact (dt_min0 hr.len a).1 b
  · rintro ⟨a, b⟩
    refine ⟨a, ?_⟩
    rcases a with a | a
    · exact absurd a hp
    · exact (dt_min0 hr.len a).2 b
theorem Eua.swap {m : Int} {L j : Nat} {p0 r0 p r : List Int} (hL : 0 < L) (hp : p ≠ []) (h : Eua m L j p0 r0 p r) (h0 : at0 r j ≠ 0) : Eua m L j p0 r0 r p := by
  obtain ⟨hr, hpp, he⟩ := h
  rcases hpp with e | ⟨h1, h2⟩
  · exact absurd e hp
  refine ⟨h1, .inr ⟨hr, h0⟩, fun y => ?_⟩
  rw [← he y]
  constructor
  · rintro ⟨a, b⟩
    rcases a with a | a
    · exact absurd a (hr.ne hL)
    · exact ⟨.inr b, a⟩
  · rintro ⟨a, b⟩
    rcases a with a | a
    · exact absurd a hp
    · exact ⟨.inr b, a⟩
theorem minL_div {m : Int} {p r : List Int} {j : Nat} (hj : j < r.length) (hp : 0 < at0 p j) (hr : 0 ≤ at0 r j) (hp' : at0 p j < m) (hr' : at0 r j < m) : at0 (minL m r p (at0 r j / at0 p j)) j = at0 r j % at0 p j := by
  rw [minL_at hj]
  have e := Int.emod_add_mul_ediv (at0 r j) (at0 p j)
  have h1 := Int.emod_nonneg (at0 r j) (show at0 p j ≠ 0 by omega)
  have h2 := Int.emod_lt_of_pos (at0 r j) hp
  have h3 : at0 r j / at0 p j * at0 p j = at0 r j - at0 r j % at0 p j := by rw [Int.mul_comm]; omega
  have h4 : 0 ≤ at0 r j / at0 p j * at0 p j := Int.mul_nonneg (Int.ediv_nonneg hr (by omega)) (by omega)
  rw [h3, Int.emod_eq_of_lt (a := at0 r j - at0 r j % at0 p j) (by omega) (by omega), show at0 r j - (at0 r j - at0 r j % at0 p j) = at0 r j % at0 p j by omega, Int.emod_eq_of_lt h1 (by omega)]

def upd (y : Nat → Int) (j : Nat) (v : Int) : Nat → Int := fun k => if k = j then v else y k
theorem dt_upd {L j : Nat} (hj : j < L) (r : List Int) (y : Nat → Int) (v : Int) : dt L r (upd y j v) = dt L r y + at0 r j * (v - y j) := by
  induction L with
  | zero => omega
  | succ L ih =>
    show dt L r (upd y j v) + at0 r L * upd y j v L = dt L r y + at0 r L * y L + at0 r j * (v - y j)
    by_cases h : L = j
    · subst h
      have : dt L r (upd y L v) = dt L r y := sumN_congr fun i hi => by unfold upd; rw [if_neg (by omega)]
      rw [this]
      unfold upd
      rw [if_pos rfl, Int.mul_sub]; omega
    · rw [ih (by omega)]
      unfold upd
      rw [if_neg h]; omega
structure Stp (m : Int) (L j : Nat) (R' R : List (List Int)) (p : List Int) : Prop where
  fwd : ∀ y, sts m L R' y → sts m L R y
  back : ∀ y, sts m L R y → pv m L p y → sts m L R' y
  zer : ∀ r ∈ R, r.length = L ∧ (∀ x ∈ r, 0 ≤ x ∧ x < m) ∧ ∀ k, j ≤ k → k + 1 < L → at0 r k = 0
  piv : p ≠ [] → Rw m L j p ∧ ∀ y, sts m L R y → ∃ v, 0 ≤ v ∧ v < m ∧ dt L p (upd y j v) % m = 0
theorem solve_mod {m a c : Int} (hm : 0 < m) (ha : 0 ≤ a) (hg : ((Nat.gcd a.toNat m.toNat : Nat) : Int) ∣ c) : ∃ v, a * v % m = c % m := by
  obtain ⟨q, rfl⟩ := hg
  have h := eu_spec (m := m) (a := a) (a % m).toNat m.toNat 0 1 (by rw [Int.zero_mul, Int.toNat_of_nonneg (by omega)]; simp) (by rw [Int.one_mul, Int.toNat_of_nonneg (Int.emod_nonneg _ (by omega)), Int.emod_emod_of_dvd _ (Int.dvd_refl m)])
  have e : (a % m).toNat = a.toNat % m.toNat := by rw [Int.toNat_emod ha (by omega)]
  rw [e, Nat.gcd_comm, ← Nat.gcd_rec, Nat.gcd_comm] at h
  refine ⟨eu m.toNat (a.toNat % m.toNat) 0 1 * q, ?_⟩
  rw [← Int.mul_assoc, Int.mul_comm a]
  exact emod_congr_mul h rfl
theorem Stp.of {m : Int} {L j : Nat} {R' R : List (List Int)} {p : List Int} (hm : 2 ≤ m) (hj : j + 1 < L) (hp : Rw m L j p) (hp0 : at0 p j ≠ 0) (h : ∀ y, (pv m L p y ∧ sts m L R y) ↔ sts m L R' y)
    (hz : ∀ r ∈ R, r.length = L ∧ (∀ x ∈ r, 0 ≤ x ∧ x < m) ∧ ∀ k, j ≤ k → k + 1 < L → at0 r k = 0) :
    Stp m L j R' (R ++ [minL m (List.replicate L 0) p (m - m / ((Nat.gcd (at0 p j).toNat m.toNat : Nat) : Int))]) p := by
  have hpa := hp.at (by omega) j
  obtain ⟨g, hg⟩ : ∃ g, Nat.gcd (at0 p j).toNat m.toNat = g := ⟨_, rfl⟩
  have hg1 : g ∣ (at0 p j).toNat := hg ▸ Nat.gcd_dvd_left _ _
  have hg2 : g ∣ m.toNat := hg ▸ Nat.gcd_dvd_right _ _
  have hg0 : 0 < g := Nat.pos_of_dvd_of_pos hg2 (by omega)
  rw [hg]
  have hmn : ((m.toNat : Nat) : Int) = m := by omega
  have hpn : (((at0 p j).toNat : Nat) : Int) = at0 p j := by omega
  have d1 : (g : Int) ∣ at0 p j := by rw [← hpn]; exact Int.natCast_dvd_natCast.2 hg1
  have d2 : (g : Int) ∣ m := by rw [← hmn]; exact Int.natCast_dvd_natCast.2 hg2
  obtain ⟨q, hq⟩ := d2
  have hq' : m / (g : Int) = q := by rw [hq]; exact Int.mul_ediv_cancel_left _ (by omega)
  rw [hq']
  have hqp : 0 < q := by
    rcases Int.lt_or_le 0 q with h | h
    · exact h
    · have := Int.mul_le_mul_of_nonneg_left h (show (0 : Int) ≤ g by omega)
      rw [Int.mul_zero] at this; omega
  have hx : ∀ y, dt L (minL m (List.replicate L 0) p (m - q)) y % m = q * dt L p y % m := fun y => by
    rw [dt_min List.length_replicate, dt_rep]
    have : (0 : Int) - (m - q) * dt L p y = q * dt L p y + m * (- dt L p y) := by rw [Int.sub_mul, Int.mul_neg]; omega
    rw [this, Int.add_mul_emod_self_left]
  refine ⟨fun y hy => ?_, fun y hy hv => ?_, fun r hr => ?_, fun _ => ⟨hp, fun y hy => ?_⟩⟩
  · obtain ⟨h1, h2⟩ := (h y).2 hy
    intro r hr
    rcases List.mem_append.1 hr with hr | hr
    · exact h2 r hr
    · obtain rfl := List.mem_singleton.1 hr
      rcases h1 with h1 | h1
      · exact absurd h1 (hp.ne (by omega))
      · rw [hx, Int.mul_emod, h1, Int.mul_zero, Int.zero_emod]
  · exact (h y).1 ⟨hv, fun r hr => hy r (List.mem_append_left _ hr)⟩
  · rcases List.mem_append.1 hr with hr | hr
    · exact hz r hr
    · obtain rfl := List.mem_singleton.1 hr
      refine ⟨by rw [minL_len, List.length_replicate], minL_range (by omega), fun k h1 h2 => ?_⟩
      rw [minL_at (by rw [List.length_replicate]; omega), at0_rep]
      rcases Nat.lt_or_ge j k with h3 | h3
      · rw [hp.zer k h3 h2]; simp
      · obtain rfl : k = j := by omega
        obtain ⟨c, hc⟩ := d1
        have e1 : (m - q) * at0 p k = m * (at0 p k - c) := by
          rw [Int.sub_mul, Int.mul_sub, hc]
          have : q * ((g : Int) * c) = m * c := by rw [hq, ← Int.mul_assoc, Int.mul_comm q]
          rw [this]
        rw [e1, Int.mul_emod_right]; rfl
  · have h1 : q * dt L p y % m = 0 := by rw [← hx]; exact hy _ (List.mem_append_right _ (List.mem_singleton.2 rfl))
    have h2 : (g : Int) ∣ dt L p y := by
      obtain ⟨c, hc⟩ := Int.dvd_of_emod_eq_zero h1
      refine ⟨c, ?_⟩
      have : q * dt L p y = q * ((g : Int) * c) := by rw [hc, ← Int.mul_assoc, Int.mul_comm q, ← hq]
      exact Int.eq_of_mul_eq_mul_left (by omega) this
    obtain ⟨v, hv⟩ := solve_mod (m := m) (a := at0 p j) (c := - dt L p y) (by omega) hpa.1 (by rw [hg]; exact Int.dvd_neg.2 h2)
    refine ⟨(v + y j) % m, (mod_lt' (by omega)).1, (mod_lt' (by omega)).2, ?_⟩
    rw [dt_upd (by omega)]
    have e2 : (at0 p j * ((v + y j) % m - y j)) % m = (- dt L p y) % m := by
      rw [← hv]
      refine emod_congr_mul rfl ?_
      have : ((v + y j) % m - y j) % m = (v + y j - y j) % m := emod_congr_sub (emod_idem _ _) rfl
      rw [this]; congr 1; omega
    have e3 := emod_congr_add (rfl : dt L p y % m = dt L p y % m) e2
    rw [e3]
    have : dt L p y + - dt L p y = 0 := by omega
    rw [this]; exact Int.zero_emod _
theorem Stp.none {m : Int} {L j : Nat} {R' R : List (List Int)} (h : ∀ y, (pv m L [] y ∧ sts m L R y) ↔ sts m L R' y)
    (hz : ∀ r ∈ R, r.length = L ∧ (∀ x ∈ r, 0 ≤ x ∧ x < m) ∧ ∀ k, j ≤ k → k + 1 < L → at0 r k = 0) : Stp m L j R' R [] :=
  ⟨fun y hy => ((h y).2 hy).2, fun y hy hv => (h y).1 ⟨hv, hy⟩, hz, fun e => absurd rfl e⟩

def Elim (m : Int) (L j : Nat) (R0 R out : List (List Int)) : Prop :=
  ∃ S : Nat → List (List Int), S (L - 1) = R0 ∧ S j = R ∧ ∀ k, j ≤ k → k + 1 < L → ∃ p, out[k]? = some p ∧ Stp m L k (S (k + 1)) (S k) p
theorem Elim.start {m : Int} {L : Nat} (R0 out : List (List Int)) : Elim m L (L - 1) R0 R0 out := ⟨fun _ => R0, rfl, rfl, fun k h1 h2 => by omega⟩
theorem Elim.step {m : Int} {L j : Nat} {R0 R R2 out out2 : List (List Int)} {p : List Int} (hj : j + 1 < L) (h : Elim m L (j + 1) R0 R out) (hs : Stp m L j R R2 p) (ho : out2[j]? = some p) (hk : ∀ k, j < k → out2[k]? = out[k]?) : Elim m L j R0 R2 out2 := by
  obtain ⟨S, h1, h2, h3⟩ := h
  refine ⟨fun k => if k = j then R2 else S k, ?_, ?_, fun k k1 k2 => ?_⟩
  · show (if L - 1 = j then R2 else S (L - 1)) = R0
    rw [if_neg (by omega)]; exact h1
  · show (if j = j then R2 else S j) = R2
    rw [if_pos rfl]
  · show ∃ p, out2[k]? = some p ∧ Stp m L k (if k + 1 = j then R2 else S (k + 1)) (if k = j then R2 else S k) p
    by_cases e : k = j
    · subst e
      rw [if_pos rfl, if_neg (by omega), h2]
      exact ⟨p, ho, hs⟩
    · rw [if_neg e, if_neg (by omega), hk k (by omega)]
      exact h3 k (by omega) k2
def yv (L : Nat) (l : List Int) : Nat → Int := fun k => if k + 1 = L then -1 else at0 l k
theorem yv_snoc {L : Nat} {l : List Int} {v : Int} (h : l.length + 1 < L) : yv L (l ++ [v]) = upd (yv L l) l.length v := by
  funext k
  show (if k + 1 = L then (-1 : Int) else at0 (l ++ [v]) k) = if k = l.length then v else (if k + 1 = L then -1 else at0 l k)
  by_cases h1 : k + 1 = L
  · rw [if_pos h1, if_neg (by omega), if_pos h1]
  · rw [if_neg h1, if_neg h1]
    by_cases h2 : k = l.length
    · subst h2; rw [if_pos rfl]; simp [at0, List.getD]
    · rw [if_neg h2]
      by_cases h3 : k < l.length
      · simp [at0, List.getD, List.getElem?_append_left h3]
      · rw [at0_out (by simp; omega), at0_out (by omega)]
theorem dt_last {L : Nat} {r : List Int} {y : Nat → Int} (hz : ∀ k, k + 1 < L → at0 r k = 0) (hL : 1 ≤ L) (hy : y (L - 1) = -1) : dt L r y = - at0 r (L - 1) := by
  obtain ⟨n, rfl⟩ : ∃ n, L = n + 1 := ⟨L - 1, by omega⟩
  show sumN n _ + at0 r n * y n = _
  rw [sumN_zero fun i hi => by rw [hz i (by omega), Int.zero_mul]]
  simp only [Nat.add_sub_cancel] at hy ⊢
  rw [hy]; omega
def Fnd (m : Int) (L : Nat) (R0 R : List (List Int)) (l : List Int) : Prop := (∃ y : Nat → Int, y (L - 1) = -1 ∧ sts m L R0 y) → sts m L R (yv L l)
theorem Fnd.start {m : Int} {L : Nat} {R0 out : List (List Int)} {S : Nat → List (List Int)} (hL : 2 ≤ L) (h1 : S (L - 1) = R0) (h3 : ∀ k, k + 1 < L → ∃ p, out[k]? = some p ∧ Stp m L k (S (k + 1)) (S k) p) : Fnd m L R0 (S 0) [] := by
  rintro ⟨y, hy, hs⟩
  have all : ∀ d, d + 1 ≤ L → sts m L (S (L - 1 - d)) y := by
    intro d
    induction d with
    | zero => intro _; rw [Nat.sub_zero, h1]; exact hs
    | succ d ih =>
      intro hd
      obtain ⟨p, -, hp⟩ := h3 (L - 1 - (d + 1)) (by omega)
      refine hp.fwd y ?_
      rw [show L - 1 - (d + 1) + 1 = L - 1 - d by omega]
      exact ih (by omega)
  have h0 := all (L - 1) (by omega)
  rw [Nat.sub_self] at h0
  obtain ⟨p, -, hp⟩ := h3 0 (by omega)
  intro r hr
  obtain ⟨-, -, hz⟩ := hp.zer r hr
  rw [dt_last (fun k hk => hz k (Nat.zero_le _) hk) (by omega) (show yv L [] (L - 1) = -1 by unfold yv; rw [if_pos (by omega)])]
  rw [← dt_last (fun k hk => hz k (Nat.zero_le _) hk) (by omega) hy]
  exact h0 r hr
theorem Fnd.step {m : Int} {L : Nat} {R0 R R' : List (List Int)} {p l : List Int} {v : Int} (hL : l.length + 1 < L) (h : Fnd m L R0 R l) (hs : Stp m L l.length R' R p)
    (hv : p ≠ [] → (∃ u, 0 ≤ u ∧ u < m ∧ at0 p l.length * u % m = (- dt L p (yv L l)) % m) → at0 p l.length * v % m = (- dt L p (yv L l)) % m) : Fnd m L R0 R' (l ++ [v]) := by
  intro he
  have h0 := h he
  have hyl : yv L l l.length = 0 := by unfold yv; rw [if_neg (by omega), at0_out (Nat.le_refl _)]
  have hd : ∀ u, dt L p (upd (yv L l) l.length u) = dt L p (yv L l) + at0 p l.length * u := fun u => by rw [dt_upd (by omega), hyl, Int.sub_zero]
  refine hs.back _ (fun r hr => ?_) ?_
  · rw [yv_snoc hL, dt_upd (by omega), (hs.zer r hr).2.2 _ (Nat.le_refl _) hL, Int.zero_mul, Int.add_zero]
    exact h0 r hr
  · by_cases hp : p = []
    · exact .inl hp
    · refine .inr ?_
      obtain ⟨u, u1, u2, hu⟩ := (hs.piv hp).2 _ h0
      rw [hd] at hu
      rw [yv_snoc hL, hd]
      have e : at0 p l.length * v % m = (- dt L p (yv L l)) % m := hv hp ⟨u, u1, u2, by
        have e1 : at0 p l.length * u = (dt L p (yv L l) + at0 p l.length * u) - dt L p (yv L l) := by omega
        rw [e1, Int.sub_emod, hu, ← Int.zero_emod m, ← Int.sub_emod, Int.zero_sub]⟩
      rw [Int.add_emod, e, ← Int.add_emod]
      have : dt L p (yv L l) + - dt L p (yv L l) = 0 := by omega
      rw [this]; exact Int.zero_emod _
end Go.Proofs.YteijannfbafdpaaGreatDoor
