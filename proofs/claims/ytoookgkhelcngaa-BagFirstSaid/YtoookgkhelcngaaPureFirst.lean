/- BagFirst answers true whatever comes in: in plain Lean. -/
import Derived.Test.YtoookgkhelcngaaK2
namespace Go.Proofs.Ytoookgkhelcngaa.G
open Go.RowKit Go.Proofs.YtoookgkhelcngaaW.PrintWords Go.Proofs.YtoookgkhelcngaaW.PrintLast Go.Proofs.YtoookgkhelcngaaW.PrintMore
set_option linter.unusedVariables false
set_option linter.unusedSimpArgs false

theorem wrap_small (n : Int) (h0 : 0 ≤ n) (h1 : n ≤ 1000000000) : wrap64 n = n := by
  unfold wrap64
  rw [Int.emod_eq_of_lt (by omega) (by omega)]
  omega
theorem Gram_refl (a : Int) (l : List Int) (b : Bool) : garlandref08_Gram.f a l b a l b = some true := by
  unfold garlandref08_Gram.f
  rw [if_pos rfl, if_pos (by simp)]
  simp
theorem Grams_l0_refl (l : List S26) (hl : l.length ≤ 1000000) : ∀ (m i k : Nat), i + m = l.length → m < k → garlandref08_Grams.l0 k l l (i : Int) = some true
  | 0, i, k + 1, hi, _ => by
    simp only [garlandref08_Grams.l0]
    rw [if_neg (by omega)]
  | m + 1, i, k + 1, hi, hk => by
    simp only [garlandref08_Grams.l0]
    rw [if_pos (by omega), if_pos (by omega), if_pos (by omega), Gram_refl]
    simp only [Option.bind_some, if_true]
    rw [wrap_small _ (by omega) (by omega)]
    exact Grams_l0_refl l hl m (i + 1) k (by omega) (by omega)
  | _, _, 0, _, h => absurd h (by omega)
theorem Grams_refl (l : List S26) (hl : l.length ≤ 1000000) (k : Nat) (hk : l.length < k) : garlandref08_Grams.f k l l = some true := by
  unfold garlandref08_Grams.f
  rw [if_pos rfl]
  exact Grams_l0_refl l hl l.length 0 k (by omega) hk
theorem fitsB_of {l : List S26} (h1 : l.length ≤ 1000000) (h2 : ∀ x ∈ l, x.f1.length ≤ 140737488355328) : fitsB l = true := by
  unfold fitsB
  simp only [Bool.and_eq_true, decide_eq_true_eq, List.all_eq_true]
  exact ⟨h1, fun x hx => h2 x hx⟩
theorem sendAll_all : ∀ (m l : List S26) (n : Int), l.length + m.length ≤ 400 → (∀ x ∈ m, x.f1.length ≤ 120) → sendAll l n m = (l ++ m, n)
  | [], l, n, _, _ => by simp [sendAll]
  | g :: m, l, n, h, hm => by
    have e : sendAll l n (g :: m) = sendAll (l ++ [g]) n m := by
      show (g :: m).foldl sendOne (l, n) = m.foldl sendOne (l ++ [g], n)
      rw [List.foldl_cons]
      congr 1
      unfold sendOne
      simp only [List.length_cons] at h
      rw [if_pos ⟨by show l.length < 400; omega, hm g (by simp)⟩]
    rw [e, sendAll_all m (l ++ [g]) n (by simp at h ⊢; omega) (fun x hx => hm x (by simp [hx]))]
    simp
theorem Send_all (m : List S26) (h : m.length ≤ 400) (hm : ∀ x ∈ m, x.f1.length ≤ 120) : bag_Send.f [] 0 m = some (m, 0) := by
  unfold bag_Send.f
  rw [if_pos ⟨⟨by simp, by simp⟩, by omega, by simp only [List.all_eq_true, decide_eq_true_eq]; exact fun x hx => by have := hm x hx; omega⟩, sendAll_all m [] 0 (by simpa using h) hm]
  simp
theorem Take_at (l : List S26) (n i : Int) (hl : l.length ≤ 400) (hm : ∀ x ∈ l, x.f1.length ≤ 120) (h0 : 0 ≤ i) (h1 : i < l.length) :
    bag_Take.f l n i = some (l.eraseIdx i.toNat, n, (rd_T26 l i).f0, (rd_T26 l i).f1, (rd_T26 l i).f2, true) := by
  unfold bag_Take.f
  rw [if_pos (fitsB_of (by omega) (fun x hx => by have := hm x hx; omega)), if_pos ⟨h0, h1⟩]

theorem First_l1 (l : List S26) (hl : l.length ≤ 30) (hm : ∀ x ∈ l, x.f1.length ≤ 120) : ∀ (m i k : Nat), i + m = l.length → m + 11 ≤ k → garlandlaw08_BagFirst.l1 k l (i : Int) (l.drop i) 0 = some true
  | 0, i, k + 1, hi, hk => by
    simp only [garlandlaw08_BagFirst.l1]
    rw [if_neg (by omega), if_pos (by simp; omega), if_pos trivial, wakes_eq k (by omega)]
    rfl
  | m + 1, i, k + 1, hi, hk => by
    simp only [garlandlaw08_BagFirst.l1]
    rw [if_pos (by omega), Take_at (l.drop i) 0 0 (by simp; omega) (fun x hx => hm x (List.mem_of_mem_drop hx)) (by decide) (by simp; omega)]
    have e : rd_T26 (l.drop i) 0 = rd_T26 l (i : Int) := by
      unfold rd_T26
      simp [List.getD_eq_getElem?_getD]
    have e2 : (l.drop i).eraseIdx (0 : Int).toNat = l.drop (i + 1) := by
      rw [show (0 : Int).toNat = 0 from rfl, List.eraseIdx_zero, List.tail_drop]
    simp only [Option.bind_some, if_true, e, e2]
    rw [if_pos (by omega), Gram_refl]
    simp only [Option.bind_some, if_true]
    rw [wrap_small _ (by omega) (by omega)]
    exact First_l1 l hl hm m (i + 1) k (by omega) (by omega)
  | _, _, 0, _, h => absurd h (by omega)
theorem First_j1 (l : List S26) (hl : l.length ≤ 30) (hm : ∀ x ∈ l, x.f1.length ≤ 120) (k : Nat) (hk : l.length + 12 ≤ k) : garlandlaw08_BagFirst.j1 k l l 0 = some true := by
  obtain ⟨k, rfl⟩ : ∃ d, k = d + 1 := ⟨k - 1, by omega⟩
  simp only [garlandlaw08_BagFirst.j1]
  exact First_l1 l hl hm l.length 0 k (by omega) (by omega)
theorem place (a : Int) (n : Int) (h0 : 0 < n) (h1 : n ≤ 30) : 0 ≤ Int.tmod (wrap64 (Int.tmod a n + n)) n ∧ Int.tmod (wrap64 (Int.tmod a n + n)) n < n := by
  have h2 := Int.tmod_lt_of_pos a h0
  have h3 : -n < Int.tmod a n := Int.neg_lt_of_neg_lt (by
    have := Int.tmod_lt_of_pos (-a) h0
    rw [Int.neg_tmod] at this
    omega)
  rw [wrap_small _ (by omega) (by omega)]
  exact ⟨Int.tmod_nonneg _ (by omega), Int.tmod_lt_of_pos _ h0⟩
theorem First_rest (l : List S26) (a : Int) (hl : l.length ≤ 30) (hm : ∀ x ∈ l, x.f1.length ≤ 120) (i : Int) (hi : ¬ i < (l.length : Int)) (k : Nat) (hk : l.length + 50 ≤ k) : garlandlaw08_BagFirst.l0 k l a i = some true := by
  obtain ⟨k, rfl⟩ : ∃ d, k = d + 1 := ⟨k - 1, by omega⟩
  simp only [garlandlaw08_BagFirst.l0]
  rw [if_neg hi, Send_all l (by omega) hm]
  simp only [Option.bind_some]
  rw [Grams_refl l (by omega) k (by omega)]
  simp only [Option.bind_some, if_true]
  by_cases h0 : (l.length : Int) > 0
  · rw [if_pos h0, if_neg (by omega)]
    obtain ⟨p0, p1⟩ := place a l.length h0 (by omega)
    generalize hp : Int.tmod (wrap64 (Int.tmod a (l.length : Int) + (l.length : Int))) (l.length : Int) = p at p0 p1 ⊢
    obtain ⟨q, rfl⟩ : ∃ q : Nat, p = (q : Int) := ⟨p.toNat, by omega⟩
    rw [Take_at l 0 (q : Int) (by omega) hm p0 p1]
    simp only [Option.bind_some]
    rw [wrap_small _ (by omega) (by omega), if_pos p0, if_pos (by omega), if_pos (by simp; omega), if_pos (by omega), if_pos (by omega), if_pos (by simp; omega), if_pos trivial, if_pos p1, Gram_refl]
    simp only [Option.bind_some, if_true]
    have e : ([] ++ l.take (q : Int).toNat) ++ l.drop ((q : Int) + 1).toNat = l.eraseIdx (q : Int).toNat := by
      rw [List.nil_append, List.eraseIdx_eq_take_drop_succ]
      congr 2
    rw [e, Grams_refl _ (by have := List.length_eraseIdx_le l (q : Int).toNat; omega) k (by have := List.length_eraseIdx_le l (q : Int).toNat; omega)]
    simp only [Option.bind_some, if_true]
    exact First_j1 l hl hm k (by omega)
  · rw [if_neg h0]
    exact First_j1 l hl hm k (by omega)
theorem First_l0 (l : List S26) (a : Int) (hl : l.length ≤ 30) : ∀ (m i k : Nat), i + m = l.length → (∀ j, j < i → (rd_T26 l j).f1.length ≤ 120) → l.length + m + 50 ≤ k → garlandlaw08_BagFirst.l0 k l a (i : Int) = some true
  | 0, i, k, hi, hj, hk => First_rest l a hl (fun x hx => by
      obtain ⟨j, hj1, rfl⟩ := List.getElem_of_mem hx
      have := hj j (by omega)
      unfold rd_T26 at this
      rw [List.getD_eq_getElem?_getD, show ((j : Int)).toNat = j from rfl, List.getElem?_eq_getElem hj1] at this
      exact this) i (by omega) k (by omega)
  | m + 1, i, k + 1, hi, hj, hk => by
    simp only [garlandlaw08_BagFirst.l0]
    rw [if_pos (by omega), if_pos (by omega)]
    by_cases h : ((rd_T26 l (i : Int)).f1.length : Int) > 120
    · rw [if_pos h, wakes_eq k (by omega)]
      rfl
    · rw [if_neg h, wrap_small _ (by omega) (by omega)]
      refine First_l0 l a hl m (i + 1) k (by omega) (fun j h1 => ?_) (by omega)
      rcases Nat.lt_or_eq_of_le (Nat.le_of_lt_succ h1) with h2 | rfl
      · exact hj j h2
      · omega
  | _, _, 0, _, _, h => absurd h (by omega)
theorem First_true (l : List S26) (a : Int) : garlandlaw08_BagFirst.f 200 l a = some true := by
  unfold garlandlaw08_BagFirst.f
  by_cases h : (l.length : Int) > 30
  · rw [if_pos h, wakes_eq 200 (by decide)]
    rfl
  · rw [if_neg h]
    exact First_l0 l a (by omega) l.length 0 200 (by omega) (fun j h => absurd h (by omega)) (by omega)
end Go.Proofs.Ytoookgkhelcngaa.G
