/- What is taken has just those bytes that were there: numbers, texts, lists. -/
import Derived.Test.YtnaohcimmafhkaaG21
import Derived.Test.YtnaohcimmafhkaaMath6
namespace Go.Proofs.Ytnaohcimmafhkaa.Pure
open Go.RowKit Go.Proofs.Ytnaohcimmafhkaa.G Go.Proofs.Ytnaohcimmafhkaa.Math Go.Proofs.YtnaohcimmafhkaaW.PrintWords

theorem chunk (X p b : List Int) (F : Bool → Option Bool) (h : b = X ++ p) (hb : Bytes b) (hl : b.length ≤ 1000000) :
    ((some (([] : List Int) : List Int)).bind fun y => (if y.length + X.length < 140737488355328 then ((some (y ++ X : List Int)).bind fun y2 => (if y2.length + p.length < 140737488355328 then ((garlandlaw01_same.f (y2 ++ p) b).bind F) else none)) else none)) = F true := by
  have hl2 : X.length + p.length ≤ 1000000 := by rw [h, List.length_append] at hl; exact hl
  rw [Option.bind_some, if_pos (by simp; omega), Option.bind_some, List.nil_append, if_pos (by omega), ← h, same_eq b b hb hb, Option.bind_some, decide_eq_true rfl]

theorem empty_str : (⟨#[]⟩ : ByteArray).toList = ([] : List UInt8) := by rw [ByteArray.toList_eq]
theorem only_end (k : Nat) (hk : 10 ≤ k) (n : Int) (p : List Int) (e : Int) (s : ByteArray) (f : Int) (l r : List Int) (g : Int)
    (h1 : e = 0 ∨ (n = 0 ∧ p = [] ∧ (e = 11 ∨ e = 12))) (h2 : f = 0 ∨ (f = 11 ∧ s = ⟨#[]⟩)) (h3 : g = 0 ∨ (g ≠ 0 ∧ l = [] ∧ r = [])) :
    garlandlaw01_NumOnly.j0 (k + 1) n p e s f l r g false = some true := by
  rw [garlandlaw01_NumOnly.j0, if_neg (by decide), wakes_of k hk]
  simp only [Option.bind_some]
  have g3 : (if g = 0 then some true else (if (l.length : Int) = 0 then (if (r.length : Int) = 0 then some true else none) else none)) = some true := by
    rcases h3 with rfl | ⟨hg, rfl, rfl⟩
    · rw [if_pos rfl]
    · rw [if_neg hg, if_pos (show ((([] : List Int).length : Nat) : Int) = 0 from rfl), if_pos (show ((([] : List Int).length : Nat) : Int) = 0 from rfl)]
  rw [g3]
  have g2 : (if f = 0 then some true else (if s.toList = ([] : List UInt8) then (if f = 11 then some true else none) else none)) = some true := by
    rcases h2 with rfl | ⟨rfl, rfl⟩
    · rw [if_pos rfl]
    · rw [if_neg (by decide), if_pos empty_str, if_pos rfl]
  rw [g2]
  rcases h1 with rfl | ⟨rfl, rfl, he⟩
  · rw [if_pos rfl]
  · rcases he with rfl | rfl
    · rw [if_neg (by decide), if_pos rfl, if_neg (by simp), if_pos rfl]
    · rw [if_neg (by decide), if_pos rfl, if_neg (by simp), if_neg (by decide), if_pos rfl]

theorem NumOnly : garlandlaw01_NumOnly.Pure := by
  intro b _ _ hb
  have hb := u8s hb
  obtain ⟨K, hK⟩ : ∃ K : Nat, 400 ≤ K := ⟨400, Nat.le_refl _⟩
  refine ⟨K + 1, ?_⟩
  unfold garlandlaw01_NumOnly.f
  by_cases hlen : (b.length : Int) > 600
  · rw [if_pos hlen, wakes_of _ (by omega)]; rfl
  rw [if_neg hlen]
  obtain ⟨n, p, e, ht⟩ : ∃ n p e, num_Take.f b = some (n, p, e) := by
    unfold num_Take.f
    rw [if_pos ⟨hb, by omega⟩]
    repeat' split
    all_goals exact ⟨_, _, _, rfl⟩
  obtain ⟨s, q, f, htt, h2⟩ := taketext_only b hb (by omega)
  obtain ⟨l, r, g, htl, h3⟩ := takelist_only (K + 1) (by omega) b hb (by omega)
  have h1 := take_only b hb (by omega) n e p ht
  have hn : 0 ≤ n ∧ n ≤ 1099511627776 := by rcases h1 with h | h <;> omega
  have hput : num_Put.f n = some (enc n.toNat, 0) := by
    have := put_ok n.toNat (by omega)
    rwa [show ((n.toNat : Nat) : Int) = n by omega] at this
  have htext : num_Text.f s = some ((s.size : Int) :: bytesOf s, 0) := by
    refine text_ok s ?_
    rcases h2 with h | ⟨_, rfl, _⟩
    · exact h.2.1
    · decide
  have hlist : num_List.f (K + 1) l = some ((l.length : Int) :: Math.encs l, 0) := by
    have hl : l.length < 256 ∧ fineL l = true := by
      rcases h3 with h | ⟨_, rfl, _⟩
      · exact ⟨h.2.1, h.2.2.1⟩
      · exact ⟨by decide, rfl⟩
    rw [list_eq l (K + 1) hl.1 (by omega), if_pos hl.2]
  have hend : garlandlaw01_NumOnly.j0 (K + 1) n p e s f l r g false = some true := by
    refine only_end K (by omega) n p e s f l r g ?_ ?_ ?_
    · rcases h1 with h | h
      · exact .inl h.1
      · exact .inr h
    · rcases h2 with h | h
      · exact .inl h.1
      · exact .inr ⟨h.1, h.2.1⟩
    · rcases h3 with h | h
      · exact .inl h.1
      · exact .inr h
  generalize garlandlaw01_NumOnly.j0 (K + 1) = J at hend ⊢
  rw [ht, Option.bind_some, htt, Option.bind_some, htl, Option.bind_some]
  dsimp only
  rw [hput, Option.bind_some, htext, Option.bind_some, hlist, Option.bind_some]
  dsimp only
  -- the list
  have c3 : (if g = 0 then (if (0 : Int) = 0 then ((some (([] : List Int) : List Int)).bind fun y => (if y.length + ((l.length : Int) :: Math.encs l).length < 140737488355328 then ((some (y ++ ((l.length : Int) :: Math.encs l) : List Int)).bind fun y2 => (if y2.length + r.length < 140737488355328 then ((garlandlaw01_same.f (y2 ++ r) b).bind fun t => J n p e s f l r g (!t)) else none)) else none)) else J n p e s f l r g true) else J n p e s f l r g false) = some true := by
    rcases h3 with ⟨rfl, _, _, _, hbe⟩ | ⟨hg, _, _⟩
    · rw [if_pos rfl, if_pos rfl, chunk _ _ b _ hbe hb (by omega)]
      exact hend
    · rw [if_neg hg]
      exact hend
  rw [c3]
  have c2 : (if f = 0 then (if (0 : Int) = 0 then ((some (([] : List Int) : List Int)).bind fun y => (if y.length + ((s.size : Int) :: bytesOf s).length < 140737488355328 then ((some (y ++ ((s.size : Int) :: bytesOf s) : List Int)).bind fun y2 => (if y2.length + q.length < 140737488355328 then ((garlandlaw01_same.f (y2 ++ q) b).bind fun t => (if t = true then some true else J n p e s f l r g true)) else none)) else none)) else J n p e s f l r g true) else some true) = some true := by
    rcases h2 with ⟨rfl, _, _, hbe⟩ | ⟨rfl, _, _⟩
    · rw [if_pos rfl, if_pos rfl, chunk _ _ b _ hbe hb (by omega)]
      rfl
    · rw [if_neg (by decide)]
  rw [c2]
  rcases h1 with ⟨rfl, _, _, hbe, _⟩ | ⟨rfl, _, he⟩
  · rw [if_pos rfl, if_pos rfl, chunk _ _ b _ hbe hb (by omega)]
    rfl
  · rw [if_neg (by omega)]
end Go.Proofs.Ytnaohcimmafhkaa.Pure
