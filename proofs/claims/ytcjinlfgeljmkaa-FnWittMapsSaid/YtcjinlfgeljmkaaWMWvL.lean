/- Lemmas of WvL. -/
import Derived.Test.YtcjinlfgeljmkaaWMWittR
import Derived.Test.YtcjinlfgeljmkaaWMWittG
set_option linter.unusedSimpArgs false
set_option linter.unusedVariables false
namespace Go.Proofs.Ytcjinlfgeljmkaa
open Go.RowKit

def TG (p n : Nat) (G : Nat → Int) : Prop := ∃ z, ∀ k, k < n → gh p z k = G k
theorem TG.gh (p n : Nat) (x : Nat → Int) : TG p n (gh p x) := ⟨x, fun _ _ => rfl⟩
theorem TG.op {p n : Nat} (hp : P4 p) {G H : Nat → Int} (hG : TG p n G) (hH : TG p n H) (t : Bool) : TG p n (fun k => if t then G k * H k else G k + H k) := by
  obtain ⟨x, hx⟩ := hG
  obtain ⟨y, hy⟩ := hH
  obtain ⟨z, hz⟩ := opG_ex hp x y t n
  exact ⟨z, fun k hk => by rw [hz k hk, opG, hx k hk, hy k hk]⟩
theorem TG.neg {p n : Nat} (hp : P4 p) {G : Nat → Int} (hG : TG p n G) : TG p n (fun k => - G k) := by
  obtain ⟨x, hx⟩ := hG
  obtain ⟨z, hz⟩ := neg_ex hp x n
  exact ⟨z, fun k hk => by rw [hz k hk, hx k hk]⟩
theorem TG.next {p n : Nat} (hp : P4 p) {G : Nat → Int} (hG : TG p n G) : TG p (n - 1) (fun k => G (k + 1)) := by
  obtain ⟨x, hx⟩ := hG
  obtain ⟨z, hz⟩ := next_ex hp x (n - 1)
  exact ⟨z, fun k hk => by rw [hz k hk, hx _ (by omega)]⟩
theorem at_FL {p n : Nat} (hp : P4 p) {M : Int} (hM : 0 < M) {G : Nat → Int} {z : Nat → Int} (hz : ∀ k, k < n → gh p z k = G k) {i : Nat} (hi : i < n) : at0 (FL p M n G) i % M = z i % M := by
  rw [FL_at hp hM hz hi, Int.emod_emod_of_dvd _ (Int.dvd_refl M)]
theorem FL_F {p : Nat} (hp : P4 p) {M : Int} (hM : 0 < M) {F : Nat → (Nat → Int) → Int} (h : Gs p F) {n : Nat} {r s : Nat → Int} (hrs : ∀ i, r i % M = s i % M) : FL p M n (fun k => F k r) = FL p M n (fun k => F k s) := by
  obtain ⟨x, hx⟩ := op_ex hp h n r
  obtain ⟨y, hy⟩ := op_ex hp h n s
  exact FL_same hp hM hx hy (op_cong hp h n hrs hx hy)
theorem Gs.opt (p : Nat) (t : Bool) : Gs p (fun k r => if t then Go.Proofs.Ytcjinlfgeljmkaa.gh p (fun i => r (2 * i)) k * Go.Proofs.Ytcjinlfgeljmkaa.gh p (fun i => r (2 * i + 1)) k else Go.Proofs.Ytcjinlfgeljmkaa.gh p (fun i => r (2 * i)) k + Go.Proofs.Ytcjinlfgeljmkaa.gh p (fun i => r (2 * i + 1)) k) := by
  cases t
  · exact (Gs.gh p (fun i => 2 * i)).add (Gs.gh p (fun i => 2 * i + 1))
  · exact (Gs.gh p (fun i => 2 * i)).mul (Gs.gh p (fun i => 2 * i + 1))
theorem opL_FLs {p n : Nat} (hp : P4 p) {M : Int} (hM : 0 < M) {G H : Nat → Int} (hG : TG p n G) (hH : TG p n H) (t : Bool) :
    opL p M (FL p M n G) (FL p M n H) t = FL p M n (fun k => if t then G k * H k else G k + H k) := by
  obtain ⟨x, hx⟩ := hG
  obtain ⟨y, hy⟩ := hH
  unfold opL
  rw [FL_len]
  have e := FL_F hp hM (Gs.opt p t) (n := n) (r := two (cutS n (at0 (FL p M n G))) (cutS n (at0 (FL p M n H)))) (s := two (cutS n x) (cutS n y)) (fun j => by
    unfold two cutS
    split
    · by_cases h : j / 2 < n
      · simp only [if_pos h]; exact at_FL hp hM hx h
      · simp only [if_neg h]
    · by_cases h : j / 2 < n
      · simp only [if_pos h]; exact at_FL hp hM hy h
      · simp only [if_neg h])
  simp only [two_l, two_r] at e
  refine (FL_ext fun k hk => ?_).trans (e.trans (FL_ext fun k hk => ?_))
  · rw [gh_cut hk, gh_cut hk]; rfl
  · rw [gh_cut hk, gh_cut hk, hx k hk, hy k hk]
theorem FL_own {p n : Nat} (hp : P4 p) {M : Int} (hM : 0 < M) {xs : List Int} (hl : xs.length = n) (hx : ∀ x ∈ xs, 0 ≤ x ∧ x < M) : xs = FL p M n (gh p (at0 xs)) := by
  subst hl; exact (FL_self hp hM xs hx).symm

section rings
variable {p n : Nat} (hp : P4 p) {M : Int} (hM : 0 < M) {xs ys us : List Int} (lx : xs.length = n) (ly : ys.length = n) (lu : us.length = n)
  (hx : ∀ x ∈ xs, 0 ≤ x ∧ x < M) (hy : ∀ x ∈ ys, 0 ≤ x ∧ x < M) (hu : ∀ x ∈ us, 0 ≤ x ∧ x < M)
include hp hM lx ly lu hx hy hu
end rings
section rings2
variable {p n : Nat} (hp : P4 p) {M : Int} (hM : 0 < M) {xs ys : List Int} (lx : xs.length = n) (ly : ys.length = n)
  (hx : ∀ x ∈ xs, 0 ≤ x ∧ x < M) (hy : ∀ x ∈ ys, 0 ≤ x ∧ x < M)
include hp hM lx ly hx hy
omit hx hy in
theorem frob_mul : frobL p M (opL p M xs ys true) = opL p M (frobL p M xs) (frobL p M ys) true := by
  have a := TG.gh p n (at0 xs)
  have b := TG.gh p n (at0 ys)
  have e : opL p M xs ys true = FL p M n (fun k => gh p (at0 xs) k * gh p (at0 ys) k) := by unfold opL; rw [lx]; rfl
  unfold frobL
  rw [e, FL_len, lx, ly, opL_FLs hp hM (a.next hp) (b.next hp)]
  obtain ⟨z, hz⟩ := a.op hp b true
  have q := FL_F hp hM (Gs.gh p (fun i => i)).next (n := n - 1) (r := cutS n (at0 (FL p M n (fun k => gh p (at0 xs) k * gh p (at0 ys) k)))) (s := cutS n z) (fun j => by
    unfold cutS
    by_cases h : j < n
    · simp only [if_pos h]; exact at_FL hp hM (fun k hk => by simpa using hz k hk) h
    · simp only [if_neg h])
  refine (FL_ext fun k hk => ?_).trans (q.trans (FL_ext fun k hk => ?_))
  · rw [gh_cut (by omega)]
  · show gh p (cutS n z) (k + 1) = _; rw [gh_cut (by omega), hz _ (by omega)]
end rings2

theorem gh_shift {p : Nat} (hp : P4 p) (z : Nat → Int) (k : Nat) : gh p (fun i => if i = 0 then 0 else z (i - 1)) k = if k = 0 then 0 else (p : Int) * gh p z (k - 1) := by
  have hp0 : p ≠ 0 := by rcases hp with rfl | rfl | rfl | rfl <;> decide
  unfold gh
  rw [sumN_first]
  simp only [if_pos]
  rw [Int.zero_pow (Nat.pos_iff_ne_zero.1 (Nat.pow_pos (Nat.pos_of_ne_zero hp0)))]
  by_cases h : k = 0
  · subst h; simp [sumN]
  · obtain ⟨j, rfl⟩ : ∃ j, k = j + 1 := ⟨k - 1, by omega⟩
    rw [if_neg h, ← sumN_mulc]
    simp only [Int.pow_zero, Int.mul_zero, Int.zero_add, Nat.add_sub_cancel]
    refine sumN_congr fun i hi => ?_
    rw [if_neg (by omega), Int.pow_succ, show j + 1 - (i + 1) = j - i by omega]
    grind
theorem shift_FL {p n : Nat} (hp : P4 p) {M : Int} (hM : 0 < M) {G : Nat → Int} (hG : TG p n G) : [0] ++ FL p M n G = FL p M (n + 1) (fun k => if k = 0 then 0 else (p : Int) * G (k - 1)) := by
  obtain ⟨z, hz⟩ := hG
  rw [FL_eq hp hM G z hz, FL_eq hp hM _ (fun i => if i = 0 then 0 else z (i - 1)) (fun k hk => by
    rw [gh_shift hp]
    by_cases h : k = 0
    · simp [h]
    · rw [if_neg h, if_neg h, hz _ (by omega)])]
  rw [List.range_succ_eq_map, List.map_cons, List.map_map]
  simp [Function.comp_def]
theorem TG.shift {p n : Nat} (hp : P4 p) {G : Nat → Int} (hG : TG p n G) : TG p (n + 1) (fun k => if k = 0 then 0 else (p : Int) * G (k - 1)) := by
  obtain ⟨z, hz⟩ := hG
  refine ⟨fun i => if i = 0 then 0 else z (i - 1), fun k hk => ?_⟩
  rw [gh_shift hp]
  by_cases h : k = 0
  · simp [h]
  · simp only [if_neg h]; rw [hz _ (by omega)]
theorem take_FL {p n : Nat} (hp : P4 p) {M : Int} (hM : 0 < M) {ys : List Int} (ly : ys.length = n + 1) (hy : ∀ x ∈ ys, 0 ≤ x ∧ x < M) : ys.take n = FL p M n (gh p (at0 ys)) := by
  have h := FL_self hp hM (ys.take n) (fun x hx => hy x (List.mem_of_mem_take hx))
  rw [show (ys.take n).length = n by simp; omega] at h
  rw [← h]
  refine FL_ext fun k hk => gh_ext fun i hi => ?_
  unfold at0
  simp [List.getD, List.getElem?_take, show i < n by omega]
theorem mul_shift {p n : Nat} (hp : P4 p) {M : Int} (hM : 0 < M) {xs ys : List Int} (lx : xs.length = n + 1) (ly : ys.length = n + 1) (hx : ∀ x ∈ xs, 0 ≤ x ∧ x < M) (hy : ∀ x ∈ ys, 0 ≤ x ∧ x < M) :
    opL p M xs ([0] ++ ys.take n) true = [0] ++ opL p M (frobL p M xs) (ys.take n) true := by
  have a := TG.gh p (n + 1) (at0 xs)
  have b := TG.gh p n (at0 ys)
  have e1 := take_FL hp hM ly hy
  have e2 : frobL p M xs = FL p M n (fun k => gh p (at0 xs) (k + 1)) := by unfold frobL; rw [lx]; rfl
  have a' : TG p n (fun k => gh p (at0 xs) (k + 1)) := a.next hp
  rw [e1, e2, shift_FL hp hM b, opL_FLs hp hM a' b, shift_FL hp hM (a'.op hp b true)]
  conv => lhs; rw [FL_own hp hM lx hx]
  rw [opL_FLs hp hM a (b.shift hp)]
  refine FL_ext fun k hk => ?_
  by_cases h : k = 0
  · simp [h]
  · obtain ⟨j, rfl⟩ : ∃ j, k = j + 1 := ⟨k - 1, by omega⟩
    simp
    grind

theorem at_repr {n : Nat} (hn : 1 ≤ n) (c : Int) (i : Nat) : at0 (reprL n c) i = if i = 0 then c else 0 := by
  unfold at0 reprL
  by_cases h : i = 0
  · subst h; simp [List.getD, show 0 < n by omega]
  · rw [if_neg h]
    simp only [List.getD, List.getElem?_set_ne (Ne.symm h)]
    by_cases h2 : i < n <;> simp [h2]
theorem gh_one {p : Nat} (hp : P4 p) (c : Int) (k : Nat) : gh p (fun i => if i = 0 then c else 0) k = c ^ (p ^ k) := by
  have hp0 : p ≠ 0 := by rcases hp with rfl | rfl | rfl | rfl <;> decide
  unfold gh
  rw [sumN_first]
  simp only [if_pos, Nat.sub_zero, Int.pow_zero, Int.one_mul]
  have : sumN k (fun i => (p : Int) ^ (i + 1) * (if i + 1 = 0 then c else 0) ^ (p ^ (k - (i + 1)))) = sumN k (fun i => 0 * (p : Int)) := sumN_congr fun i _ => by
    rw [if_neg (by omega), Int.zero_pow (Nat.pos_iff_ne_zero.1 (Nat.pow_pos (Nat.pos_of_ne_zero hp0)))]; simp
  rw [this, sumN_mulc]; simp
theorem repr_FL {p n : Nat} (hp : P4 p) {M : Int} (hM : 0 < M) (hn : 1 ≤ n) (c : Int) : FL p M n (fun k => c ^ (p ^ k)) = reprL n (c % M) := by
  rw [FL_eq hp hM _ (fun i => if i = 0 then c else 0) (fun k _ => gh_one hp c k)]
  symm
  refine map_range_ext (by simp [reprL]) fun i hi => ?_
  rw [at_repr hn]
  split <;> simp
theorem repr_mul {p n : Nat} (hp : P4 p) {M : Int} (hM : 0 < M) (hn : 1 ≤ n) (a b : Int) : opL p M (reprL n a) (reprL n b) true = reprL n (a * b % M) := by
  rw [← repr_FL hp hM hn]
  unfold opL
  rw [show (reprL n a).length = n by simp [reprL]]
  refine FL_ext fun k _ => ?_
  unfold opG
  rw [if_pos rfl, Int.mul_pow, show at0 (reprL n a) = fun i => if i = 0 then a else 0 from funext (at_repr hn a), show at0 (reprL n b) = fun i => if i = 0 then b else 0 from funext (at_repr hn b), gh_one hp, gh_one hp]

end Go.Proofs.Ytcjinlfgeljmkaa
