/- Places behind bytes, and ahead of them, keys' places, rows: the program's answers are the document's own. -/
import Derived.Test.YtjnkgccabgiocaaMath3
namespace Go.Proofs.Ytjnkgccabgiocaa.Pure
open Go.RowKit Go.Proofs.Ytjnkgccabgiocaa.G Go.Proofs.Ytjnkgccabgiocaa.Math Go.Proofs.YtjnkgccabgiocaaW.PrintWords

theorem tells_from (a b : Int) (hb : 0 ≤ b ∧ b ≤ 255) (s : ByteArray) (hs : s.size ≤ 100) (l : List ByteArray) (hl : l.length ≤ 20) (d : Nat) : ∀ (k : Nat) (i : Nat), i ≤ l.length → l.length - i = d → d + 15400 < k →
    garlandlaw04_MixTells.l0 k a b s l (i : Int) = some true := by
  induction d with
  | zero =>
    intro k i hi hd hk
    obtain ⟨k, rfl⟩ : ∃ m, k = m + 1 := ⟨k - 1, by omega⟩
    have hr := rowFrom_len l []
    simp only [garlandlaw04_MixTells.l0]
    rw [if_neg (by omega)]
    simp only [of_eq, rof_eq k (by omega), row_eq k l (by omega) (by omega), rrow_eq k l (by omega) (by omega), next_eq, rnext_eq a b hb, before_eq k (by omega), rbefore_eq k (by omega) a b hb, go_eq a s (by omega), rgo_eq k a s (by omega) (by omega),
      ints_refl k (rowFrom [] l).1 (by simp at hr; omega) (by simp at hr; omega), wakes_eq k (by omega), Option.bind_some, if_true]
  | succ d ih =>
    intro k i hi hd hk
    obtain ⟨k, rfl⟩ : ∃ m, k = m + 1 := ⟨k - 1, by omega⟩
    simp only [garlandlaw04_MixTells.l0]
    rw [if_pos (by omega), if_pos (by omega)]
    split
    · rw [wakes_eq k (by omega)]; rfl
    · rw [wrap64_small _ (by omega) (by omega), show (i : Int) + 1 = ((i + 1 : Nat) : Int) by omega]
      exact ih k (i + 1) (by omega) (by omega) (by omega)
theorem MixTells (a b : Int) (hb : (Lit.int .u8 b).wf = true) (s : ByteArray) (l : List ByteArray) : ∃ k, garlandlaw04_MixTells.f k a b s l = some true := by
  refine ⟨15500, ?_⟩
  unfold garlandlaw04_MixTells.f
  obtain ⟨k, hk⟩ : ∃ k : Nat, k = 15499 := ⟨_, rfl⟩
  have e : 15500 = k + 1 := by omega
  rw [e]
  have hw : garlandlaw04_MixTells.j0 (k + 1) a b s l true = some true := by
    simp only [garlandlaw04_MixTells.j0, if_true]
    rw [wakes_eq k (by omega)]; rfl
  split
  · exact hw
  · by_cases h : (l.length : Int) > 20
    · rw [decide_eq_true h]; exact hw
    · rw [decide_eq_false h]
      simp only [garlandlaw04_MixTells.j0]
      rw [if_neg (by simp)]
      exact tells_from a b (u8_range hb) s (by omega) l (by omega) l.length k 0 (by omega) (by omega) (by omega)
end Go.Proofs.Ytjnkgccabgiocaa.Pure
