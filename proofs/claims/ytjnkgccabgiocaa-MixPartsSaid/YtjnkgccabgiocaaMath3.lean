/- Plain facts of the document's own answers (Next, back, Before, Go, Of, Row): the same as the program's. -/
import Derived.Test.YtjnkgccabgiocaaMath2
namespace Go.Proofs.Ytjnkgccabgiocaa.Math
open Go.RowKit Go.Proofs.Ytjnkgccabgiocaa.G Go.Proofs.YtjnkgccabgiocaaW.PrintWords Go.Proofs.YtjnkgccabgiocaaW.PrintLast
set_option linter.unusedSimpArgs false
set_option linter.unusedVariables false

theorem rplace_eq (a : Int) : garlandref02_Place.f a = some (a % 65536) := by
  unfold garlandref02_Place.f; rw [place]
theorem rnext_eq (a b : Int) (hb : 0 ≤ b ∧ b ≤ 255) : garlandref04_Next.f a b = some (nx a b) := by
  unfold garlandref04_Next.f
  rw [rplace_eq]
  simp only [Option.bind_some]
  rw [wrap64_small (a % 65536 * 40503) (by omega) (by omega), wrap64_small b (by omega) (by omega), wrap64_small (a % 65536 * 40503 + b) (by omega) (by omega), wrap64_small _ (by omega) (by omega), tmod_nonneg _ _ (by omega)]
  unfold nx
  congr 1
  omega
theorem inv_mod (x : Int) : x * 40503 % 65536 * 30599 % 65536 = x % 65536 := by
  rw [mulmod]; omega
theorem rback_from (d : Nat) : ∀ k, d < k → d ≤ 15299 → garlandref04_back.l0 k (30599 - 2 * (d : Int)) = some 30599 := by
  induction d with
  | zero =>
    intro k hk _
    obtain ⟨k, rfl⟩ : ∃ m, k = m + 1 := ⟨k - 1, by omega⟩
    simp only [garlandref04_back.l0]
    rw [if_pos (by omega), if_pos (by rw [wrap64_small _ (by omega) (by omega), tmod_nonneg _ _ (by omega)]; omega)]
    rfl
  | succ d ih =>
    intro k hk hd
    obtain ⟨k, rfl⟩ : ∃ m, k = m + 1 := ⟨k - 1, by omega⟩
    simp only [garlandref04_back.l0]
    rw [if_pos (by omega), if_neg, wrap64_small (30599 - 2 * ((d + 1 : Nat) : Int) + 2) (by omega) (by omega), show 30599 - 2 * ((d + 1 : Nat) : Int) + 2 = 30599 - 2 * (d : Int) by omega]
    · exact ih k (by omega) (by omega)
    · rw [wrap64_small _ (by omega) (by omega), tmod_nonneg _ _ (by omega)]
      intro h
      have h2 : (30599 - 2 * ((d + 1 : Nat) : Int)) * 40503 % 65536 * 30599 % 65536 = 30599 := by rw [h]; decide
      rw [inv_mod] at h2
      clear h
      omega
theorem rback_eq (k : Nat) (h : 15300 ≤ k) : garlandref04_back.f k = some 30599 := by
  unfold garlandref04_back.f
  obtain ⟨d, hd⟩ : ∃ d : Nat, d = 15299 := ⟨_, rfl⟩
  have h2 := rback_from d k (by omega) (by omega)
  have e : 30599 - 2 * (d : Int) = 1 := by omega
  rw [e] at h2
  exact h2
theorem rbefore_eq (k : Nat) (h : 15300 ≤ k) (a b : Int) (hb : 0 ≤ b ∧ b ≤ 255) : garlandref04_Before.f k a b = some (bf a b) := by
  unfold garlandref04_Before.f
  simp only [rplace_eq, rback_eq k h, Option.bind_some]
  rw [wrap64_small b (by omega) (by omega)]
  rw [show wrap64 (wrap64 (a % 65536 - b) - 1) = a % 65536 - b - 1 by unfold wrap64; omega]
  rw [wrap64_small _ (by omega) (by omega), tmod_nonneg _ _ (by omega), mulmod]
  rw [show (a % 65536 - b - 1) * 30599 = ((a % 65536 - b - 1)) * 30599 from rfl, ← mulmod, show (a % 65536 - b - 1) % 65536 = (a - b - 1) % 65536 by omega, mulmod]
  rfl
theorem rgo_from (s : ByteArray) (hs : s.size ≤ 9223372036854775807) (d : Nat) : ∀ (k : Nat) (i : Nat) (x : Int), i ≤ s.size → s.size - i = d → d < k → 0 ≤ x ∧ x < 65536 →
    garlandref04_Go.l0 k x s (i : Int) = some (((nums s).drop i).foldl nx x) := by
  induction d with
  | zero =>
    intro k i x hi hd hk hx
    obtain ⟨k, rfl⟩ : ∃ m, k = m + 1 := ⟨k - 1, by omega⟩
    simp only [garlandref04_Go.l0]
    rw [if_neg (by omega), List.drop_of_length_le (by rw [nums_len]; omega)]
    rfl
  | succ d ih =>
    intro k i x hi hd hk hx
    obtain ⟨k, rfl⟩ : ∃ m, k = m + 1 := ⟨k - 1, by omega⟩
    have hlt : i < s.size := by omega
    simp only [garlandref04_Go.l0]
    rw [if_pos (by omega), if_pos (by omega), rnext_eq _ _ (bt_range s _)]
    simp only [Option.bind_some]
    rw [wrap64_small _ (by omega) (by omega), show (i : Int) + 1 = ((i + 1 : Nat) : Int) by omega, ih k (i + 1) _ (by omega) (by omega) (by omega) (nx_range _ _)]
    rw [List.drop_eq_getElem_cons (l := nums s) (i := i) (by rw [nums_len]; exact hlt), bt_nums s i hlt]
    rfl
theorem rgo_eq (k : Nat) (a : Int) (s : ByteArray) (hs : s.size ≤ 9223372036854775807) (hk : s.size < k) : garlandref04_Go.f k a s = some (goN a (nums s)) := by
  unfold garlandref04_Go.f
  rw [rplace_eq]
  simp only [Option.bind_some]
  have := rgo_from s hs s.size k 0 (a % 65536) (by omega) (by omega) hk (by omega)
  simpa [goN] using this
/-- A key's place and error. -/
def keyOf (s : ByteArray) : Int × Int := if s.size = 0 then (0, 2) else if 20 < s.size then (0, 2) else (goN 7 (nums s), 0)
theorem of_eq (s : ByteArray) : mix_Of.f s = some (keyOf s) := by
  unfold mix_Of.f keyOf
  split
  · rfl
  · split
    · rfl
    · rw [go_eq _ _ (by omega)]; rfl
theorem rof_eq (k : Nat) (hk : 20 < k) (s : ByteArray) : garlandref04_Of.f k s = some (keyOf s) := by
  unfold garlandref04_Of.f keyOf
  by_cases h0 : s.size = 0
  · rw [if_pos (by omega), if_pos h0]
  · rw [if_neg (by omega), if_neg h0]
    by_cases h1 : 20 < s.size
    · rw [if_pos (by omega), if_pos h1]
    · rw [if_neg (by omega), if_neg h1, rgo_eq k 7 s (by omega) (by omega)]; rfl
/-- A row's places, behind those that were told. -/
def rowFrom (acc : List Int) : List ByteArray → List Int × Int
  | [] => (acc, 0)
  | s :: r => if (keyOf s).2 = 0 then rowFrom (acc ++ [(keyOf s).1]) r else ([], (keyOf s).2)
theorem rdOf_get {α : Type} (e : α) (l : List α) (i : Nat) (h : i < l.length) : rdOf e l (i : Int) = l[i] := by simp [rdOf, h]
theorem row_from (l : List ByteArray) (hl : l.length ≤ 1000000) (d : Nat) : ∀ (k : Nat) (i : Nat) (acc : List Int), i ≤ l.length → l.length - i = d → d < k → acc.length ≤ i →
    mix_Row.l0 k acc l (l.length : Int) (i : Int) = some (rowFrom acc (l.drop i)) := by
  induction d with
  | zero =>
    intro k i acc hi hd hk ha
    obtain ⟨k, rfl⟩ : ∃ m, k = m + 1 := ⟨k - 1, by omega⟩
    simp only [mix_Row.l0]
    rw [if_neg (by omega), List.drop_of_length_le (by omega)]
    rfl
  | succ d ih =>
    intro k i acc hi hd hk ha
    obtain ⟨k, rfl⟩ : ∃ m, k = m + 1 := ⟨k - 1, by omega⟩
    have hlt : i < l.length := by omega
    simp only [mix_Row.l0]
    rw [if_pos (by omega), if_pos (by omega), if_pos (by omega), rdOf_get _ _ _ hlt, of_eq, List.drop_eq_getElem_cons hlt]
    simp only [Option.bind_some, rowFrom]
    by_cases h : (keyOf l[i]).2 = 0
    · rw [if_pos h, if_pos h, if_pos (by omega), wrap64_small _ (by omega) (by omega), show (i : Int) + 1 = ((i + 1 : Nat) : Int) by omega, ih k (i + 1) _ (by omega) (by omega) (by omega) (by simp; omega)]
    · rw [if_neg h, if_neg h]
theorem row_eq (k : Nat) (l : List ByteArray) (hl : l.length ≤ 1000000) (hk : l.length < k) : mix_Row.f k l = some (rowFrom [] l) := by
  unfold mix_Row.f
  have := row_from l hl l.length k 0 [] (by omega) (by omega) hk (by simp)
  simpa using this
theorem rrow_from (l : List ByteArray) (hl : l.length ≤ 1000000) (d : Nat) : ∀ (k : Nat) (i : Nat) (acc : List Int), i ≤ l.length → l.length - i = d → d + 21 < k → acc.length ≤ i →
    garlandref04_Row.l0 k l acc (i : Int) = some (rowFrom acc (l.drop i)) := by
  induction d with
  | zero =>
    intro k i acc hi hd hk ha
    obtain ⟨k, rfl⟩ : ∃ m, k = m + 1 := ⟨k - 1, by omega⟩
    simp only [garlandref04_Row.l0]
    rw [if_neg (by omega), List.drop_of_length_le (by omega)]
    rfl
  | succ d ih =>
    intro k i acc hi hd hk ha
    obtain ⟨k, rfl⟩ : ∃ m, k = m + 1 := ⟨k - 1, by omega⟩
    have hlt : i < l.length := by omega
    simp only [garlandref04_Row.l0]
    rw [if_pos (by omega), if_pos (by omega), rdOf_get _ _ _ hlt, rof_eq k (by omega), List.drop_eq_getElem_cons hlt]
    simp only [Option.bind_some, rowFrom]
    by_cases h : (keyOf l[i]).2 = 0
    · rw [if_pos h, if_pos h, if_pos (by omega), wrap64_small _ (by omega) (by omega), show (i : Int) + 1 = ((i + 1 : Nat) : Int) by omega, ih k (i + 1) _ (by omega) (by omega) (by omega) (by simp; omega)]
    · rw [if_neg h, if_neg h]
theorem rrow_eq (k : Nat) (l : List ByteArray) (hl : l.length ≤ 1000000) (hk : l.length + 21 < k) : garlandref04_Row.f k l = some (rowFrom [] l) := by
  unfold garlandref04_Row.f
  have := rrow_from l hl l.length k 0 [] (by omega) (by omega) hk (by simp)
  simpa using this
theorem ints_from (l : List Int) (hl : l.length ≤ 1000000) (d : Nat) : ∀ (k : Nat) (i : Nat), i ≤ l.length → l.length - i = d → d < k →
    garlandref04_Ints.l0 k l l (i : Int) = some true := by
  induction d with
  | zero =>
    intro k i hi hd hk
    obtain ⟨k, rfl⟩ : ∃ m, k = m + 1 := ⟨k - 1, by omega⟩
    simp only [garlandref04_Ints.l0]
    rw [if_neg (by omega)]
  | succ d ih =>
    intro k i hi hd hk
    obtain ⟨k, rfl⟩ : ∃ m, k = m + 1 := ⟨k - 1, by omega⟩
    simp only [garlandref04_Ints.l0]
    rw [if_pos (by omega), if_pos (by omega), if_pos (by omega), if_true, wrap64_small _ (by omega) (by omega), show (i : Int) + 1 = ((i + 1 : Nat) : Int) by omega]
    exact ih k (i + 1) (by omega) (by omega) (by omega)
theorem ints_refl (k : Nat) (l : List Int) (hl : l.length ≤ 1000000) (hk : l.length < k) : garlandref04_Ints.f k l l = some true := by
  unfold garlandref04_Ints.f
  rw [if_pos rfl]
  exact ints_from l hl l.length k 0 (by omega) (by omega) hk
theorem rowFrom_len (l : List ByteArray) : ∀ acc, (rowFrom acc l).1.length ≤ acc.length + l.length := by
  induction l with
  | nil => intro acc; simp [rowFrom]
  | cons s r ih =>
    intro acc
    simp only [rowFrom]
    split
    · have := ih (acc ++ [(keyOf s).1]); simp at this ⊢; omega
    · simp
end Go.Proofs.Ytjnkgccabgiocaa.Math
