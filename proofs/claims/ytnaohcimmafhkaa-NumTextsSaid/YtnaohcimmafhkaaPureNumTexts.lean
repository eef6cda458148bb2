/- Texts and lists that are put are taken, whatever stands behind. -/
import Derived.Test.YtnaohcimmafhkaaG15
import Derived.Test.YtnaohcimmafhkaaMath5
namespace Go.Proofs.Ytnaohcimmafhkaa.Pure
open Go.RowKit Go.Proofs.Ytnaohcimmafhkaa.G Go.Proofs.Ytnaohcimmafhkaa.Math Go.Proofs.YtnaohcimmafhkaaW.PrintWords

theorem fine_take (l : List Int) (i : Nat) (h : i < l.length) : fineL (l.take (i + 1)) = (fineL (l.take i) && okN (rd l (i : Int))) := by
  have e : l.take (i + 1) = l.take i ++ [rd l (i : Int)] := by
    rw [List.take_add_one, List.getElem?_eq_getElem h]; simp [rd, h]
  rw [e, fineL, fineL, List.all_append]
  simp

theorem texts_loop (l r : List Int) (hl : l.length ≤ 100) (hr : Bytes r) (hrl : r.length ≤ 60) : ∀ (m i k : Nat), i + m = l.length → m + 150 < k →
    garlandlaw01_NumTexts.l0 k l r (fineL (l.take i)) (i : Int) = some true
  | 0, i, k, h1, h2 => by
    obtain ⟨k, rfl⟩ : ∃ j, k = j + 1 := ⟨k - 1, by omega⟩
    rw [garlandlaw01_NumTexts.l0, if_neg (by omega), List.take_of_length_le (by omega), list_eq l k (by omega) (by omega)]
    cases hf : fineL l with
    | true =>
      have hel := encs_len l hf
      simp only [if_true, Option.bind_some, List.nil_append, List.length_nil, Nat.zero_add]
      rw [if_pos (by rw [List.length_cons]; omega), if_pos (by rw [List.length_cons]; omega), takelist_ok l r hf (by omega) hr (by omega) k (by omega)]
      simp only [Option.bind_some, if_true]
      rw [ints_refl l (by omega) k (by omega)]
      simp only [Option.bind_some, if_true]
      rw [same_eq r r hr hr]
      simp only [Option.bind_some, decide_true, if_true]
      rw [wakes_of k (by omega)]
      rfl
    | false =>
      simp only [Bool.false_eq_true, if_false, Option.bind_some, if_true, List.length_nil]
      rw [wakes_of k (by omega)]
      rfl
  | m + 1, i, k, h1, h2 => by
    obtain ⟨k, rfl⟩ : ∃ j, k = j + 1 := ⟨k - 1, by omega⟩
    have hi : i < l.length := by omega
    have ih := texts_loop l r hl hr hrl m (i + 1) k (by omega) (by omega)
    have hw : wrap64 ((i : Int) + 1) = ((i + 1 : Nat) : Int) := by rw [wrap64_small _ (by omega) (by omega)]; omega
    rw [garlandlaw01_NumTexts.l0, if_pos (by omega), hw]
    rw [fine_take l i hi] at ih
    cases hf : fineL (l.take i) with
    | false =>
      rw [hf, Bool.false_and] at ih
      rw [if_neg (by decide)]
      exact ih
    | true =>
      rw [hf, Bool.true_and] at ih
      rw [if_pos rfl, if_pos (by omega)]
      by_cases h0 : rd l (i : Int) ≥ 0
      · rw [if_pos h0]
        rw [okN, decide_eq_true (show 0 ≤ rd l (i : Int) from h0), Bool.true_and] at ih
        exact ih
      · rw [if_neg h0]
        rw [okN, decide_eq_false (show ¬ 0 ≤ rd l (i : Int) from h0), Bool.false_and] at ih
        exact ih

theorem NumTexts : garlandlaw01_NumTexts.Pure := by
  intro s l r _ _ _ _ _ _ hr
  have hr := u8s hr
  refine ⟨400, ?_⟩
  have htrue : garlandlaw01_NumTexts.j0 400 s l r true = some true := by
    simp only [garlandlaw01_NumTexts.j0, if_true]
    rw [wakes_of 399 (by decide)]
    rfl
  unfold garlandlaw01_NumTexts.f
  split
  · exact htrue
  split
  · exact htrue
  rename_i hs hl
  by_cases hrl : (r.length : Int) > 60
  · rw [decide_eq_true hrl]; exact htrue
  rw [decide_eq_false hrl]
  have hbl := bytesOf_length s
  simp only [garlandlaw01_NumTexts.j0, Bool.false_eq_true, if_false]
  rw [text_ok s (by omega)]
  simp only [Option.bind_some, List.nil_append, List.length_nil, Nat.zero_add]
  rw [if_pos (by rw [List.length_cons]; omega), if_pos (by rw [List.length_cons]; omega), taketext_ok s (by omega) r (by omega)]
  simp only [Option.bind_some, if_true]
  rw [same_eq r r hr hr]
  simp only [Option.bind_some, decide_true, Bool.not_true]
  rw [garlandlaw01_NumTexts.j1, if_neg (by decide)]
  have := texts_loop l r (by omega) hr (by omega) l.length 0 398 (by omega) (by omega)
  exact this
end Go.Proofs.Ytnaohcimmafhkaa.Pure
