/- From one place the next byte leads one place further; two bytes lead to one place just if they are the same; and so from the place ahead. -/
import Derived.Test.YtjnkgccabgiocaaMath2
namespace Go.Proofs.Ytjnkgccabgiocaa.Pure
open Go.RowKit Go.Proofs.Ytjnkgccabgiocaa.G Go.Proofs.Ytjnkgccabgiocaa.Math Go.Proofs.YtjnkgccabgiocaaW.PrintWords

theorem go_one (a b : Int) (hb : 0 ≤ b ∧ b ≤ 255) : mix_Go.f (bf a b) (strOfNums [b]) = some (a % 65536) := by
  rw [go_eq _ _ (by rw [strOfNums_size]; simp), nums_strOfNums _ (by intro x hx; simp at hx; subst hx; exact hb), goN_one, nx_bf]
theorem bf_inj (a b c : Int) (hb : 0 ≤ b ∧ b ≤ 255) (hc : 0 ≤ c ∧ c ≤ 255) (h : bf a b = bf a c) : b = c := by
  have h1 := nx_bf a b
  have h2 := nx_bf a c
  rw [h] at h1
  generalize bf a c = x at h1 h2
  unfold nx at h1 h2
  omega
theorem MixBeside : garlandlaw04_MixBeside.Pure := by
  intro a b c _ hb hc
  have hb := u8_range hb
  have hc := u8_range hc
  have e1 : (nx a b == nx a c) = (b == c) := by
    rw [Bool.eq_iff_iff]; simp; unfold nx; omega
  have e2 : (bf a b == bf a c) = (b == c) := by
    rw [Bool.eq_iff_iff]; simp
    exact ⟨bf_inj a b c hb hc, fun h => by rw [h]⟩
  have e3 : b < 255 → (nx a ((b + 1) % 256) != Int.tmod (wrap64 (nx a b + 1)) 65536) = false := by
    intro h
    have := nx_range a b
    rw [wrap64_small _ (by omega) (by omega), tmod_nonneg _ _ (by omega)]
    simp; unfold nx; omega
  refine ⟨11, ?_⟩
  unfold garlandlaw04_MixBeside.f
  simp only [next_eq, Option.bind_some, e1]
  have e4 : garlandlaw04_MixBeside.j0 11 a b c false = some true := by
    simp only [garlandlaw04_MixBeside.j0]
    simp only [before_eq 10 (by omega), Option.bind_some, e2, go_one a b hb, go_one a c hc, place, if_true, wakes_eq 10 (by omega)]
    simp
  by_cases h : b < 255
  · simp only [if_pos h, e3 h, e4]; simp
  · simp only [if_neg h, e4]; simp
end Go.Proofs.Ytjnkgccabgiocaa.Pure
