/- Faults of a law, told by its table. No program stands here. -/
import Derived.Test.YtflebfmkgmhccaaPlc
set_option linter.unusedSimpArgs false
set_option linter.unusedVariables false
namespace Go.Proofs.Ytflebfmkgmhccaa

theorem flat_before {α : Type} (f : Nat → List α) (n : Nat) (h : ∀ k, k < n → f k = []) : (List.range n).flatMap f = [] := by
  rw [List.flatMap_eq_nil_iff]
  exact fun x hx => h x (List.mem_range.1 hx)
/-- The first of a list of lists, each told by a number. -/
theorem flat_first {α : Type} (f : Nat → List α) {n i : Nat} (hi : i < n) (h : ∀ k, k < i → f k = []) {x : α} {l : List α} (hx : f i = x :: l) : ∃ l', (List.range n).flatMap f = x :: l' := by
  obtain ⟨d, rfl⟩ : ∃ d, n = i + 1 + d := ⟨n - (i + 1), by omega⟩
  rw [List.range_add, List.flatMap_append, List.range_succ, List.flatMap_append, flat_before f i h]
  refine ⟨l ++ ((List.range d).map (fun x => i + 1 + x)).flatMap f, ?_⟩
  simp [hx]

/-- The coefficients of F(F(x, y), z) and of F(x, F(y, z)). -/
def lefC (m : Int) (n : Nat) (t : List (List Int)) (a b c : Nat) : Int := sumN (n - c) (fun i => atT t i c * atT (powT m n t i) a b) % m
def rigC (m : Int) (n : Nat) (t : List (List Int)) (a b c : Nat) : Int := sumN (n - a) (fun j => atT t a j * atT (powT m n t j) b c) % m
def dueI (i : Nat) : Int := if i = 1 then 1 else 0
/-- The faults, in order. -/
def fau1 (t : List (List Int)) (n : Nat) : List (List Int) := (List.range n).flatMap (fun (i : Nat) => if atT t i 0 = dueI i then [] else [[0, (i : Int)]])
def fau2 (t : List (List Int)) (n : Nat) : List (List Int) := (List.range n).flatMap (fun (i : Nat) => (List.range n).flatMap (fun (j : Nat) => if i < j ∧ i + j < n ∧ atT t i j ≠ atT t j i then [[1, (i : Int), (j : Int)]] else []))
def fau3 (m : Int) (t : List (List Int)) (n : Nat) : List (List Int) := (List.range n).flatMap (fun (a : Nat) => (List.range n).flatMap (fun (b : Nat) => (List.range n).flatMap (fun (c : Nat) => if a + b + c < n ∧ lefC m n t a b c ≠ rigC m n t a b c then [[2, (a : Int), (b : Int), (c : Int)]] else [])))
/-- The first fault, or no list. -/
def fauL (m : Int) (t : List (List Int)) (n : Nat) : List Int := (fau1 t n ++ (fau2 t n ++ fau3 m t n)).headD []

theorem fau1_nil {t : List (List Int)} {n : Nat} (h : ∀ i, i < n → atT t i 0 = dueI i) : fau1 t n = [] := flat_before _ _ fun k hk => if_pos (h k hk)
theorem fau2_nil {t : List (List Int)} {n : Nat} (h : ∀ i j, i < j → i + j < n → atT t i j = atT t j i) : fau2 t n = [] :=
  flat_before _ _ fun i _ => flat_before _ _ fun j _ => if_neg fun hh => hh.2.2 (h i j hh.1 hh.2.1)
theorem fau3_nil {m : Int} {t : List (List Int)} {n : Nat} (h : ∀ a b c, a + b + c < n → lefC m n t a b c = rigC m n t a b c) : fau3 m t n = [] :=
  flat_before _ _ fun a _ => flat_before _ _ fun b _ => flat_before _ _ fun c _ => if_neg fun hh => hh.2 (h a b c hh.1)
theorem fauL_1 {m : Int} {t : List (List Int)} {n i : Nat} (hi : i < n) (h : ∀ k, k < i → atT t k 0 = dueI k) (hx : atT t i 0 ≠ dueI i) : fauL m t n = [0, (i : Int)] := by
  obtain ⟨l, hl⟩ := flat_first (fun (i : Nat) => if atT t i 0 = dueI i then [] else [[0, (i : Int)]]) hi (fun k hk => if_pos (h k hk)) (if_neg hx)
  have hf : fau1 t n = [0, (i : Int)] :: l := hl
  unfold fauL
  rw [hf]; rfl
theorem fauL_2 {m : Int} {t : List (List Int)} {n i j : Nat} (hij : i < j) (hn : i + j < n) (h1 : ∀ k, k < n → atT t k 0 = dueI k) (hA : ∀ i', i' < i → ∀ j', i' < j' → i' + j' < n → atT t i' j' = atT t j' i')
    (hB : ∀ j', i < j' → j' < j → atT t i j' = atT t j' i) (hx : atT t i j ≠ atT t j i) : fauL m t n = [1, (i : Int), (j : Int)] := by
  obtain ⟨l, hl⟩ := flat_first (n := n) (fun (j : Nat) => if i < j ∧ i + j < n ∧ atT t i j ≠ atT t j i then [[1, (i : Int), (j : Int)]] else []) (show j < n by omega) (fun k hk => if_neg fun hh => hh.2.2 (hB k hh.1 hk)) (if_pos ⟨hij, hn, hx⟩)
  obtain ⟨l', hl'⟩ := flat_first (n := n) (fun (i : Nat) => (List.range n).flatMap (fun (j : Nat) => if i < j ∧ i + j < n ∧ atT t i j ≠ atT t j i then [[1, (i : Int), (j : Int)]] else [])) (show i < n by omega)
    (fun k hk => flat_before _ _ fun j _ => if_neg fun hh => hh.2.2 (hA k hk j hh.1 hh.2.1)) hl
  have hf : fau2 t n = [1, (i : Int), (j : Int)] :: l' := hl'
  unfold fauL
  rw [fau1_nil h1, hf]; rfl
theorem fauL_3 {m : Int} {t : List (List Int)} {n a b c : Nat} (hn : a + b + c < n) (h1 : ∀ k, k < n → atT t k 0 = dueI k) (h2 : ∀ i j, i < j → i + j < n → atT t i j = atT t j i)
    (hA : ∀ a', a' < a → ∀ b c, a' + b + c < n → lefC m n t a' b c = rigC m n t a' b c) (hB : ∀ b', b' < b → ∀ c, a + b' + c < n → lefC m n t a b' c = rigC m n t a b' c)
    (hC : ∀ c', c' < c → lefC m n t a b c' = rigC m n t a b c') (hx : lefC m n t a b c ≠ rigC m n t a b c) : fauL m t n = [2, (a : Int), (b : Int), (c : Int)] := by
  obtain ⟨l, hl⟩ := flat_first (n := n) (fun (c : Nat) => if a + b + c < n ∧ lefC m n t a b c ≠ rigC m n t a b c then [[2, (a : Int), (b : Int), (c : Int)]] else []) (show c < n by omega) (fun k hk => if_neg fun hh => hh.2 (hC k hk)) (if_pos ⟨hn, hx⟩)
  obtain ⟨l', hl'⟩ := flat_first (n := n) (fun (b : Nat) => (List.range n).flatMap (fun (c : Nat) => if a + b + c < n ∧ lefC m n t a b c ≠ rigC m n t a b c then [[2, (a : Int), (b : Int), (c : Int)]] else [])) (show b < n by omega)
    (fun k hk => flat_before _ _ fun c _ => if_neg fun hh => hh.2 (hB k hk c hh.1)) hl
  obtain ⟨l'', hl''⟩ := flat_first (n := n) (fun (a : Nat) => (List.range n).flatMap (fun (b : Nat) => (List.range n).flatMap (fun (c : Nat) => if a + b + c < n ∧ lefC m n t a b c ≠ rigC m n t a b c then [[2, (a : Int), (b : Int), (c : Int)]] else []))) (show a < n by omega)
    (fun k hk => flat_before _ _ fun b _ => flat_before _ _ fun c _ => if_neg fun hh => hh.2 (hA k hk b c hh.1)) hl'
  have hf : fau3 m t n = [2, (a : Int), (b : Int), (c : Int)] :: l'' := hl''
  unfold fauL
  rw [fau1_nil h1, fau2_nil h2, hf]; rfl
theorem fauL_0 {m : Int} {t : List (List Int)} {n : Nat} (h1 : ∀ k, k < n → atT t k 0 = dueI k) (h2 : ∀ i j, i < j → i + j < n → atT t i j = atT t j i)
    (h3 : ∀ a b c, a + b + c < n → lefC m n t a b c = rigC m n t a b c) : fauL m t n = [] := by
  unfold fauL
  rw [fau1_nil h1, fau2_nil h2, fau3_nil h3]; rfl

theorem mem_fau1 {t : List (List Int)} {n : Nat} {l : List Int} (h : l ∈ fau1 t n) : ∃ i : Nat, i < n ∧ l = [0, (i : Int)] ∧ atT t i 0 ≠ dueI i := by
  unfold fau1 at h
  obtain ⟨i, hi, hl⟩ := List.mem_flatMap.1 h
  split at hl
  · simp at hl
  · rename_i hne; exact ⟨i, List.mem_range.1 hi, by simpa using hl, hne⟩
theorem mem_fau2 {t : List (List Int)} {n : Nat} {l : List Int} (h : l ∈ fau2 t n) : ∃ i j : Nat, i < j ∧ i + j < n ∧ l = [1, (i : Int), (j : Int)] ∧ atT t i j ≠ atT t j i := by
  unfold fau2 at h
  obtain ⟨i, hi, hl⟩ := List.mem_flatMap.1 h
  obtain ⟨j, hj, hl⟩ := List.mem_flatMap.1 hl
  split at hl
  · rename_i hh; exact ⟨i, j, hh.1, hh.2.1, by simpa using hl, hh.2.2⟩
  · simp at hl
theorem mem_fau3 {m : Int} {t : List (List Int)} {n : Nat} {l : List Int} (h : l ∈ fau3 m t n) : ∃ a b c : Nat, a + b + c < n ∧ l = [2, (a : Int), (b : Int), (c : Int)] ∧ lefC m n t a b c ≠ rigC m n t a b c := by
  unfold fau3 at h
  obtain ⟨i, hi, hl⟩ := List.mem_flatMap.1 h
  obtain ⟨j, hj, hl⟩ := List.mem_flatMap.1 hl
  obtain ⟨c, hc, hl⟩ := List.mem_flatMap.1 hl
  split at hl
  · rename_i hh; exact ⟨i, j, c, hh.1, by simpa using hl, hh.2⟩
  · simp at hl
theorem fauL_len (m : Int) (t : List (List Int)) (n : Nat) : (fauL m t n).length ≤ 4 := by
  unfold fauL
  cases e : fau1 t n ++ (fau2 t n ++ fau3 m t n) with
  | nil => simp
  | cons x l =>
    have hx : x ∈ fau1 t n ++ (fau2 t n ++ fau3 m t n) := by rw [e]; simp
    show x.length ≤ 4
    rcases List.mem_append.1 hx with h | h
    · obtain ⟨i, -, rfl, -⟩ := mem_fau1 h; simp
    · rcases List.mem_append.1 h with h | h
      · obtain ⟨i, j, -, -, rfl, -⟩ := mem_fau2 h; simp
      · obtain ⟨a, b, c, -, rfl, -⟩ := mem_fau3 h; simp
/-- A law: no fault. -/
theorem fauL_nil {m : Int} {t : List (List Int)} {n : Nat} (h : fauL m t n = []) :
    (∀ k, k < n → atT t k 0 = dueI k) ∧ (∀ i j, i < j → i + j < n → atT t i j = atT t j i) ∧ (∀ a b c, a + b + c < n → lefC m n t a b c = rigC m n t a b c) := by
  have e : fau1 t n ++ (fau2 t n ++ fau3 m t n) = [] := by
    cases e : fau1 t n ++ (fau2 t n ++ fau3 m t n) with
    | nil => rfl
    | cons x l =>
      have hx : x ∈ fau1 t n ++ (fau2 t n ++ fau3 m t n) := by rw [e]; simp
      unfold fauL at h
      rw [e] at h
      have h : x = [] := h
      subst h
      rcases List.mem_append.1 hx with h | h
      · obtain ⟨i, -, h, -⟩ := mem_fau1 h; cases h
      · rcases List.mem_append.1 h with h | h
        · obtain ⟨i, j, -, -, h, -⟩ := mem_fau2 h; cases h
        · obtain ⟨a, b, c, -, h, -⟩ := mem_fau3 h; cases h
  have e1 : fau1 t n = [] := (List.append_eq_nil_iff.1 e).1
  have e2 : fau2 t n = [] := (List.append_eq_nil_iff.1 (List.append_eq_nil_iff.1 e).2).1
  have e3 : fau3 m t n = [] := (List.append_eq_nil_iff.1 (List.append_eq_nil_iff.1 e).2).2
  refine ⟨fun k hk => ?_, fun i j hij hn => ?_, fun a b c hn => ?_⟩
  · have := List.flatMap_eq_nil_iff.1 e1 k (List.mem_range.2 hk)
    by_cases hh : atT t k 0 = dueI k
    · exact hh
    · rw [if_neg hh] at this; cases this
  · have := List.flatMap_eq_nil_iff.1 (List.flatMap_eq_nil_iff.1 e2 i (List.mem_range.2 (by omega))) j (List.mem_range.2 (by omega))
    by_cases hh : atT t i j = atT t j i
    · exact hh
    · rw [if_pos ⟨hij, hn, hh⟩] at this; cases this
  · have := List.flatMap_eq_nil_iff.1 (List.flatMap_eq_nil_iff.1 (List.flatMap_eq_nil_iff.1 e3 a (List.mem_range.2 (by omega))) b (List.mem_range.2 (by omega))) c (List.mem_range.2 (by omega))
    by_cases hh : lefC m n t a b c = rigC m n t a b c
    · exact hh
    · rw [if_pos ⟨hn, hh⟩] at this; cases this

/-- A column of a table: the coefficients at a power of y. -/
def colT (t : List (List Int)) (n j : Nat) : List Int := mk (n - j) (fun i => atT t i j)
theorem colT_len (t : List (List Int)) (n j : Nat) : (colT t n j).length = n - j := mk_len _ _
/-- What the reference's two tables hold. -/
theorem left_eq {m : Int} {n : Nat} {t : List (List Int)} {a b c : Nat} (h : a + b + c < n) : atT (hornT m n t (colT t n c)) a b = lefC m n t a b c := by
  rw [hornT_pow _ (by omega), colT_len]
  unfold lefC
  congr 1
  exact sumN_ext fun k hk => by unfold colT; rw [mk_at hk]
theorem right_eq {m : Int} {n : Nat} {t : List (List Int)} (ht : PlaT m n t) {a b c : Nat} (h : a + b + c < n) (row : List Int) (hr : t[a]? = some row) : atT (hornT m n t row) b c = rigC m n t a b c := by
  obtain ⟨hl, rfl⟩ := List.getElem?_eq_some_iff.1 hr
  rw [hornT_pow _ (by omega), (ht.2 a hl).1, ht.1]
  unfold rigC
  congr 1
  exact sumN_ext fun k hk => by rw [atT_row hl]
end Go.Proofs.Ytflebfmkgmhccaa
