/- BagOwn answers true whatever comes in: in plain Lean. -/
import Derived.Test.YtoookgkhelcngaaO1
namespace Go.Proofs.Ytoookgkhelcngaa.G
open Go.RowKit Go.Proofs.YtoookgkhelcngaaW.PrintWords Go.Proofs.YtoookgkhelcngaaW.PrintLast Go.Proofs.YtoookgkhelcngaaW.PrintMore
set_option linter.unusedVariables false
set_option linter.unusedSimpArgs false

theorem wrap_few (n : Int) (h0 : 0 ≤ n) (h1 : n ≤ 1000000000) : wrap64 n = n := by
  unfold wrap64
  rw [Int.emod_eq_of_lt (by omega) (by omega)]
  omega
theorem Gram_same (a : Int) (l : List Int) (b : Bool) : garlandref08_Gram.f a l b a l b = some true := by
  unfold garlandref08_Gram.f
  rw [if_pos rfl, if_pos (by simp)]
  simp
theorem Grams_l0_same (l : List S26) (hl : l.length ≤ 1000000) : ∀ (m i k : Nat), i + m = l.length → m < k → garlandref08_Grams.l0 k l l (i : Int) = some true
  | 0, i, k + 1, hi, _ => by
    simp only [garlandref08_Grams.l0]
    rw [if_neg (by omega)]
  | m + 1, i, k + 1, hi, hk => by
    simp only [garlandref08_Grams.l0]
    rw [if_pos (by omega), if_pos (by omega), if_pos (by omega), Gram_same]
    simp only [Option.bind_some, if_true]
    rw [wrap_few _ (by omega) (by omega)]
    exact Grams_l0_same l hl m (i + 1) k (by omega) (by omega)
  | _, _, 0, _, h => absurd h (by omega)
theorem Same_same (l : List S26) (n : Int) (hl : l.length ≤ 1000000) (k : Nat) (hk : l.length < k) : garlandref08_Same.f k l n l n = some true := by
  unfold garlandref08_Same.f garlandref08_Grams.f
  rw [if_pos rfl, if_pos rfl]
  have h := Grams_l0_same l hl l.length 0 k (by omega) hk
  rw [show ((0 : Nat) : Int) = 0 from rfl] at h
  rw [h]
  rfl
theorem Great_l0 (l : List S26) (n : Int) (hl : l.length ≤ 40) : ∀ (m i k : Nat), i + m = l.length → 2 * m + 2 ≤ k → ∃ b, garlandref08_Great.l0 k (i : Int) l n = some b ∧ (b = false → ∀ j : Nat, i ≤ j → j < l.length → (rd_T26 l (j : Int)).f1.length ≤ 300)
  | 0, i, k + 2, hi, _ => by
    simp only [garlandref08_Great.l0]
    rw [if_neg (by omega)]
    simp only [garlandref08_Great.j1]
    rw [if_neg (by decide)]
    exact ⟨_, rfl, fun _ j h1 h2 => absurd h1 (by omega)⟩
  | m + 1, i, k + 2, hi, hk => by
    simp only [garlandref08_Great.l0]
    rw [if_pos (by omega), decide_eq_true (by omega)]
    simp only [garlandref08_Great.j1]
    rw [if_pos trivial, if_pos (by omega), if_pos (by omega)]
    by_cases h : ((rd_T26 l (i : Int)).f1.length : Int) > 300
    · rw [if_pos h]
      exact ⟨true, rfl, fun e => by cases e⟩
    · rw [if_neg h, wrap_few _ (by omega) (by omega)]
      obtain ⟨b, e, hb⟩ := Great_l0 l n hl m (i + 1) k (by omega) (by omega)
      refine ⟨b, e, fun e2 j h1 h2 => ?_⟩
      rcases Nat.lt_or_eq_of_le h1 with h3 | rfl
      · exact hb e2 j h3 h2
      · omega
  | _, _, 0, _, h => absurd h (by omega)
  | _, _, 1, _, h => absurd h (by omega)
theorem own_gram (x : S26) (h : x.f1.length ≤ 300) : garlandref08_own.f x.f0 x.f1 x.f2 = some (x.f0, x.f1, x.f2) := by
  unfold garlandref08_own.f
  simp only [Option.bind_some]
  rw [if_pos (by simp; omega), List.nil_append]
theorem Own_l0 (l : List S26) (n : Int) (hl : l.length ≤ 40) (hm : ∀ j : Nat, j < l.length → (rd_T26 l (j : Int)).f1.length ≤ 300) : ∀ (m i k : Nat) (acc : List S26), i + m = l.length → m < k → acc.length + m ≤ 1000 → garlandref08_Own.l0 k acc (i : Int) l n = some (acc ++ l.drop i, n)
  | 0, i, k + 1, acc, hi, _, _ => by
    simp only [garlandref08_Own.l0]
    rw [if_neg (by omega), List.drop_eq_nil_of_le (by omega), List.append_nil]
  | m + 1, i, k + 1, acc, hi, hk, ha => by
    simp only [garlandref08_Own.l0]
    rw [if_pos (by omega), if_pos (by omega), own_gram _ (hm i (by omega))]
    simp only [Option.bind_some]
    rw [if_pos (by omega), wrap_few _ (by omega) (by omega)]
    have h := Own_l0 l n hl hm m (i + 1) k (acc ++ [rd_T26 l (i : Int)]) (by omega) (by omega) (by simp; omega)
    rw [show (((i + 1 : Nat)) : Int) = (i : Int) + 1 from rfl] at h
    refine h.trans ?_
    have hi' : i < l.length := by omega
    have e : rd_T26 l (i : Int) = l[i] := by
      unfold rd_T26
      rw [List.getD_eq_getElem?_getD, show ((i : Int)).toNat = i from rfl, List.getElem?_eq_getElem hi']
      rfl
    rw [List.append_assoc, List.drop_eq_getElem_cons hi', e]
    rfl
  | _, _, 0, _, _, h, _ => absurd h (by omega)
theorem Own_same (l : List S26) (n : Int) (hl : l.length ≤ 40) (hm : ∀ j : Nat, j < l.length → (rd_T26 l (j : Int)).f1.length ≤ 300) (k : Nat) (hk : l.length < k) : garlandref08_Own.f k l n = some (l, n) := by
  unfold garlandref08_Own.f
  have h := Own_l0 l n hl hm l.length 0 k [] (by omega) hk (by simp; omega)
  rw [show ((0 : Nat) : Int) = 0 from rfl] at h
  exact h
theorem fits_own {l : List S26} (hl : l.length ≤ 40) (hm : ∀ j : Nat, j < l.length → (rd_T26 l (j : Int)).f1.length ≤ 300) : l.all (fun x => decide (x.f1.length ≤ 140737488355328)) = true := by
  simp only [List.all_eq_true, decide_eq_true_eq]
  intro x hx
  obtain ⟨j, hj, rfl⟩ := List.getElem_of_mem hx
  have := hm j hj
  unfold rd_T26 at this
  rw [List.getD_eq_getElem?_getD, show ((j : Int)).toNat = j from rfl, List.getElem?_eq_getElem hj] at this
  have h2 : (l[j]).f1.length ≤ 300 := this
  omega
theorem BagOwn_wakes (k : Nat) (hk : 11 ≤ k) (a i : Int) (l : List S26) (n g0 : Int) (l1 : List Int) (g2 : Bool) : garlandlaw08_BagOwn.j0 k a i true l n g0 l1 g2 = some true := by
  obtain ⟨k, rfl⟩ : ∃ d, k = d + 1 := ⟨k - 1, by omega⟩
  simp only [garlandlaw08_BagOwn.j0]
  rw [if_pos trivial, wakes_eq k (by omega)]
  rfl
theorem BagOwn_main (k : Nat) (hk : 60 ≤ k) (a i : Int) (l : List S26) (n g0 : Int) (l1 : List Int) (g2 : Bool) (hl : l.length ≤ 40) (hm : ∀ j : Nat, j < l.length → (rd_T26 l (j : Int)).f1.length ≤ 300) (h1 : l1.length ≤ 300) :
    garlandlaw08_BagOwn.j0 k a i false l n g0 l1 g2 = some true := by
  obtain ⟨k, rfl⟩ : ∃ d, k = d + 1 := ⟨k - 1, by omega⟩
  have hf := fits_own hl hm
  have hF : fitsB l = true := by
    unfold fitsB
    rw [Bool.and_eq_true]
    exact ⟨decide_eq_true (by omega), hf⟩
  obtain ⟨s1, e1⟩ : ∃ s, bag_Send.f l n [⟨g0, l1, g2⟩] = some s := by
    unfold bag_Send.f
    rw [if_pos ⟨⟨by omega, hf⟩, by simp, by simp; omega⟩]
    exact ⟨_, rfl⟩
  obtain ⟨s2, e2⟩ : ∃ s, bag_Take.f l n a = some s := by
    unfold bag_Take.f
    rw [if_pos hF]
    split <;> exact ⟨_, rfl⟩
  obtain ⟨s3, e3⟩ : ∃ s, bag_Drop.f l n a = some s := by
    unfold bag_Drop.f
    rw [if_pos hF]
    split <;> exact ⟨_, rfl⟩
  obtain ⟨s4, e4⟩ : ∃ s, bag_Twice.f l n a = some s := by
    unfold bag_Twice.f
    rw [if_pos hF]
    split <;> exact ⟨_, rfl⟩
  obtain ⟨s5, e5⟩ : ∃ s, bag_Harm.f l n a i 1 = some s := by
    unfold bag_Harm.f
    rw [if_pos hF]
    split
    · split <;> exact ⟨_, rfl⟩
    · exact ⟨_, rfl⟩
  obtain ⟨s6, e6⟩ : ∃ s, bag_Own.f l n = some s := by
    unfold bag_Own.f
    rw [if_pos ⟨by omega, hf⟩]
    exact ⟨_, rfl⟩
  simp only [garlandlaw08_BagOwn.j0]
  rw [if_neg (by decide), Own_same l n hl hm k (by omega)]
  simp only [Option.bind_some]
  rw [if_pos (by simp; omega), e1, e2, e3, e4, e5, e6]
  simp only [Option.bind_some]
  rw [Same_same l n (by omega) k (by omega)]
  simp only [Option.bind_some, if_true]
  rw [List.nil_append, Gram_same]
  simp only [Option.bind_some, if_true]
  rw [wakes_eq k (by omega)]
  rfl
theorem BagOwn_any (k : Nat) (hk : 100 ≤ k) (l : List S26) (n g0 : Int) (l1 : List Int) (g2 : Bool) (a i : Int) : garlandlaw08_BagOwn.f k l n g0 l1 g2 a i = some true := by
  unfold garlandlaw08_BagOwn.f
  by_cases h : (l.length : Int) > 40
  · rw [if_pos h]
    exact BagOwn_wakes k (by omega) ..
  · rw [if_neg h]
    unfold garlandref08_Great.f
    obtain ⟨b, e, hb⟩ := Great_l0 l n (by omega) l.length 0 k (by omega) (by omega)
    rw [show ((0 : Nat) : Int) = 0 from rfl] at e
    rw [e]
    simp only [Option.bind_some]
    by_cases hbb : b = true
    · rw [if_pos hbb]
      exact BagOwn_wakes k (by omega) ..
    · rw [if_neg hbb]
      have hm := hb (by cases b <;> simp_all)
      by_cases h1 : (l1.length : Int) > 300
      · rw [decide_eq_true h1]
        exact BagOwn_wakes k (by omega) ..
      · rw [decide_eq_false h1]
        exact BagOwn_main k (by omega) a i l n g0 l1 g2 (by omega) (fun j hj => hm j (Nat.zero_le _) hj) (by omega)
theorem BagOwn_true (l : List S26) (n g0 : Int) (l1 : List Int) (g2 : Bool) (a i : Int) : garlandlaw08_BagOwn.f 200 l n g0 l1 g2 a i = some true := BagOwn_any 200 (by decide) ..
end Go.Proofs.Ytoookgkhelcngaa.G
