/- What is taken has just those bytes that were there: texts, lists. -/
import Derived.Test.YtnaohcimmafhkaaMath5
namespace Go.Proofs.Ytnaohcimmafhkaa.Math
open Go.RowKit Go.Proofs.Ytnaohcimmafhkaa.G Go.Proofs.YtnaohcimmafhkaaW.PrintWords

theorem bytesOf_strOf (l : List Int) (h : Bytes l) : bytesOf (strOfNums l) = l := by
  rw [bytesOf, strOfNums_data, List.map_map]
  conv => rhs; rw [← List.map_id l]
  apply List.map_congr_left
  intro x hx
  have := h x hx
  simp
  omega

theorem taketext_only (b : List Int) (hb : Bytes b) (hl : b.length ≤ 1000000) : ∃ s q f, num_TakeText.f b = some (s, q, f) ∧
    ((f = 0 ∧ s.size < 256 ∧ Bytes q ∧ b = ((s.size : Int) :: bytesOf s) ++ q) ∨ (f = 11 ∧ s = ⟨#[]⟩ ∧ q = [])) := by
  cases b with
  | nil => exact ⟨⟨#[]⟩, [], 11, by simp [num_TakeText.f], .inr ⟨rfl, rfl, rfl⟩⟩
  | cons a t =>
    have ha := hb a List.mem_cons_self
    have ht := hb.tail
    rw [List.length_cons] at hl
    by_cases h : (t.length : Int) < a
    · exact ⟨_, _, _, taketext_not a t ha h (by omega), .inr ⟨rfl, rfl, rfl⟩⟩
    · obtain ⟨m, rfl⟩ : ∃ m : Nat, a = (m : Int) := ⟨a.toNat, by omega⟩
      refine ⟨_, _, _, taketext_there m t (by omega) (by omega) (by omega), .inl ⟨rfl, ?_, ht.drop m, ?_⟩⟩
      · rw [strOfNums_size, List.length_take]; omega
      · rw [bytesOf_strOf _ (ht.take m), strOfNums_size, List.length_take, Nat.min_eq_left (by omega), List.cons_append, List.take_append_drop]

theorem takelist_loop_only (c : Nat) (hc : c < 256) : ∀ (m i k : Nat) (acc b : List Int), i + m = c → m < k → acc.length ≤ 1000 + i → Bytes b → b.length ≤ 1000000 →
    ∃ l r g, num_TakeList.l0 k acc b (c : Int) (i : Int) = some (l, r, g) ∧
      ((g = 0 ∧ ∃ l', l = acc ++ l' ∧ b = encs l' ++ r ∧ fineL l' = true ∧ l'.length = m ∧ Bytes r) ∨ (g ≠ 0 ∧ l = [] ∧ r = []))
  | 0, i, k, acc, b, h1, h2, h3, hb, hl => by
    obtain ⟨k, rfl⟩ : ∃ j, k = j + 1 := ⟨k - 1, by omega⟩
    refine ⟨acc, b, 0, ?_, .inl ⟨rfl, [], by simp, rfl, rfl, rfl, hb⟩⟩
    rw [num_TakeList.l0, if_neg (by omega)]
  | m + 1, i, k, acc, b, h1, h2, h3, hb, hl => by
    obtain ⟨k, rfl⟩ : ∃ j, k = j + 1 := ⟨k - 1, by omega⟩
    obtain ⟨n, p, e, ht⟩ : ∃ n p e, num_Take.f b = some (n, p, e) := by
      unfold num_Take.f
      rw [if_pos ⟨hb, by omega⟩]
      repeat' split
      all_goals exact ⟨_, _, _, rfl⟩
    rw [num_TakeList.l0, if_pos (by omega), ht, Option.bind_some]
    dsimp only
    rcases take_only b hb (by omega) n e p ht with ⟨rfl, h0, hmx, hbe, hp⟩ | ⟨_, _, he⟩
    · have hpl : p.length ≤ b.length := by rw [hbe, List.length_append]; omega
      obtain ⟨l, r, g, h, hh⟩ := takelist_loop_only c hc m (i + 1) k (acc ++ [n]) p (by omega) (by omega) (by rw [List.length_append, List.length_singleton]; omega) hp (by omega)
      refine ⟨l, r, g, ?_, ?_⟩
      · rw [if_pos rfl, if_pos (by omega), show (((i : Int) + 1) % 256) = ((i + 1 : Nat) : Int) by omega]
        exact h
      · rcases hh with ⟨rfl, l', rfl, hpe, hf, hll, hr⟩ | h
        · refine .inl ⟨rfl, n :: l', by simp, ?_, ?_, by simp [hll], hr⟩
          · rw [encs_cons, List.append_assoc, ← hpe]; exact hbe
          · rw [fineL_cons, hf, okN, decide_eq_true h0, decide_eq_true hmx]; rfl
        · exact .inr h
    · refine ⟨[], [], e, ?_, .inr ⟨by omega, rfl, rfl⟩⟩
      rw [if_neg (by omega)]
theorem takelist_only (k : Nat) (hk : 300 ≤ k) (b : List Int) (hb : Bytes b) (hl : b.length ≤ 1000000) : ∃ l r g, num_TakeList.f k b = some (l, r, g) ∧
    ((g = 0 ∧ l.length < 256 ∧ fineL l = true ∧ Bytes r ∧ b = ((l.length : Int) :: encs l) ++ r) ∨ (g ≠ 0 ∧ l = [] ∧ r = [])) := by
  cases b with
  | nil => exact ⟨[], [], 11, by simp [num_TakeList.f], .inr ⟨by decide, rfl, rfl⟩⟩
  | cons a t =>
    have ha := hb a List.mem_cons_self
    have ht := hb.tail
    rw [List.length_cons] at hl
    obtain ⟨c, rfl⟩ : ∃ c : Nat, a = (c : Int) := ⟨a.toNat, by omega⟩
    obtain ⟨l, r, g, h, hh⟩ := takelist_loop_only c (by omega) c 0 k [] t (by omega) (by omega) (by simp) ht (by omega)
    refine ⟨l, r, g, ?_, ?_⟩
    · unfold num_TakeList.f
      have e0 : rd ((c : Int) :: t) 0 = (c : Int) := rfl
      rw [if_neg (by rw [List.length_cons]; omega), if_pos (by rw [List.length_cons]; omega), List.drop_succ_cons, List.drop_zero, clone_ok _ (by omega), Option.bind_some, if_pos (by rw [List.length_cons]; omega), e0]
      exact h
    · rcases hh with ⟨rfl, l', rfl, hpe, hf, hll, hr⟩ | h
      · exact .inl ⟨rfl, by omega, hf, hr, by rw [List.cons_append, hll, ← hpe]⟩
      · exact .inr h
end Go.Proofs.Ytnaohcimmafhkaa.Math
