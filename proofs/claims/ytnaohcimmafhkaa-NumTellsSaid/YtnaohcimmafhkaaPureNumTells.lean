/- Bytes of numbers, texts and lists, and what is taken, are those of the document. -/
import Derived.Test.YtnaohcimmafhkaaG13
import Derived.Test.YtnaohcimmafhkaaMath7
namespace Go.Proofs.Ytnaohcimmafhkaa.Pure
open Go.RowKit Go.Proofs.Ytnaohcimmafhkaa.G Go.Proofs.Ytnaohcimmafhkaa.Math Go.Proofs.YtnaohcimmafhkaaW.PrintWords

theorem put_some (a : Int) : ∃ q, num_Put.f a = some q := by
  rcases put_cases a with ⟨N, _, _, h⟩ | ⟨_, h⟩
  · exact ⟨_, h⟩
  · exact ⟨_, h⟩
theorem text_some (s : ByteArray) : ∃ q, num_Text.f s = some q := by
  unfold num_Text.f
  split
  · exact ⟨_, rfl⟩
  · exact ⟨_, rfl⟩
theorem list_some (l : List Int) (k : Nat) (hl : l.length ≤ 300) (hk : 400 ≤ k) : ∃ q, num_List.f k l = some q := by
  by_cases h : 256 ≤ l.length
  · unfold num_List.f
    rw [if_pos (by omega)]
    exact ⟨_, rfl⟩
  · rw [list_eq l k (by omega) (by omega)]
    split
    · exact ⟨_, rfl⟩
    · exact ⟨_, rfl⟩
theorem tells2 (k : Nat) (hk : 500 ≤ k) (b : List Int) (hb : Bytes b) (hl : b.length ≤ 600) : garlandlaw01_NumTells.j2 (k + 1) b false = some true := by
  obtain ⟨s, q, f, htt, _⟩ := taketext_only b hb (by omega)
  obtain ⟨l, r, g, htl, h3⟩ := takelist_only k (by omega) b hb (by omega)
  have hll : l.length < 256 := by
    rcases h3 with h | ⟨_, rfl, _⟩
    · exact h.2.1
    · decide
  rw [garlandlaw01_NumTells.j2, if_neg (by decide), reftaketext_eq b hb (by omega), htt, Option.bind_some, Option.bind_some, reftakelist_eq b hb (by omega) k (by omega), htl, Option.bind_some, Option.bind_some]
  dsimp only
  rw [if_pos rfl, same_refl, Option.bind_some, if_pos rfl, if_pos rfl, ints_refl l (by omega) k (by omega), Option.bind_some, if_pos rfl, same_refl, Option.bind_some, if_pos rfl, if_pos rfl, wakes_of k (by omega)]
  rfl
theorem tells1 (k : Nat) (hk : 600 ≤ k) (l b : List Int) (hb : Bytes b) (hl : l.length ≤ 300) (hbl : b.length ≤ 600) : garlandlaw01_NumTells.j1 (k + 1) l b false = some true := by
  obtain ⟨q, hq⟩ := list_some l k hl (by omega)
  obtain ⟨n, p, e, ht⟩ : ∃ n p e, num_Take.f b = some (n, p, e) := by
    unfold num_Take.f
    rw [if_pos ⟨hb, by omega⟩]
    repeat' split
    all_goals exact ⟨_, _, _, rfl⟩
  obtain ⟨k, rfl⟩ : ∃ j, k = j + 1 := ⟨k - 1, by omega⟩
  have h2 := tells2 k (by omega) b hb hbl
  rw [garlandlaw01_NumTells.j1, if_neg (by decide)]
  generalize garlandlaw01_NumTells.j2 (k + 1) = J at h2 ⊢
  rw [reflist_eq l (k + 1) (by omega) (by omega), hq, Option.bind_some, Option.bind_some, reftake_eq b hb (by omega) (k + 1) (by omega), ht, Option.bind_some, Option.bind_some]
  dsimp only
  rw [same_refl, Option.bind_some, if_pos rfl, if_pos rfl, if_pos rfl, same_refl, Option.bind_some, if_pos rfl, bne_self_eq_false]
  exact h2
theorem tells0 (k : Nat) (hk : 700 ≤ k) (a : Int) (s : ByteArray) (l b : List Int) (hb : Bytes b) (hs : s.size ≤ 300) (hl : l.length ≤ 300) (hbl : b.length ≤ 600) : garlandlaw01_NumTells.j0 (k + 1) a s l b false = some true := by
  obtain ⟨q, hq⟩ := put_some a
  obtain ⟨t, ht⟩ := text_some s
  obtain ⟨k, rfl⟩ : ∃ j, k = j + 1 := ⟨k - 1, by omega⟩
  have h2 := tells1 k (by omega) l b hb hl hbl
  rw [garlandlaw01_NumTells.j0, if_neg (by decide)]
  generalize garlandlaw01_NumTells.j1 (k + 1) = J at h2 ⊢
  rw [refput_eq a (k + 1) (by omega), hq, Option.bind_some, Option.bind_some, reftext_eq s (by omega), ht, Option.bind_some, Option.bind_some]
  rw [same_refl, Option.bind_some, if_pos rfl, if_pos rfl, same_refl, Option.bind_some, if_pos rfl, bne_self_eq_false]
  exact h2
theorem NumTells : garlandlaw01_NumTells.Pure := by
  intro a s l b _ _ _ _ _ _ _ hb
  have hb := u8s hb
  obtain ⟨K, hK⟩ : ∃ K : Nat, 700 ≤ K := ⟨700, Nat.le_refl _⟩
  refine ⟨K + 1, ?_⟩
  have htrue : garlandlaw01_NumTells.j0 (K + 1) a s l b true = some true := by
    rw [garlandlaw01_NumTells.j0, if_pos rfl, wakes_of _ (by omega)]
    rfl
  unfold garlandlaw01_NumTells.f
  by_cases h1 : (s.size : Int) > 300
  · rw [if_pos h1]; exact htrue
  rw [if_neg h1]
  by_cases h2 : (l.length : Int) > 300
  · rw [if_pos h2]; exact htrue
  rw [if_neg h2]
  by_cases h3 : (b.length : Int) > 600
  · rw [decide_eq_true h3]; exact htrue
  rw [decide_eq_false h3]
  exact tells0 K hK a s l b hb (by omega) (by omega) (by omega)
end Go.Proofs.Ytnaohcimmafhkaa.Pure
