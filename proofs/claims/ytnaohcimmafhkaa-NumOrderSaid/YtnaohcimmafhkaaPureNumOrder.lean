/- Of numbers that are put the one whose bytes are the first by order of bytes is the lesser one. -/
import Derived.Test.YtnaohcimmafhkaaG15
import Derived.Test.YtnaohcimmafhkaaMath4
namespace Go.Proofs.Ytnaohcimmafhkaa.Pure
open Go.RowKit Go.Proofs.Ytnaohcimmafhkaa.G Go.Proofs.Ytnaohcimmafhkaa.Math Go.Proofs.YtnaohcimmafhkaaW.PrintWords Go.Proofs.YtnaohcimmafhkaaW.PrintMore

theorem NumOrder : garlandlaw01_NumOrder.Pure := by
  intro n m _ _
  refine ⟨20, ?_⟩
  have htrue : garlandlaw01_NumOrder.j0 20 n m true = some true := by
    simp only [garlandlaw01_NumOrder.j0, if_true]
    rw [wakes_of 19 (by decide)]
    rfl
  unfold garlandlaw01_NumOrder.f
  split
  · exact htrue
  · rename_i hmn
    by_cases hmx : mx n m > 1099511627776
    · rw [decide_eq_true hmx]
      exact htrue
    · rw [decide_eq_false hmx]
      have h1 : 0 ≤ n ∧ 0 ≤ m := by unfold mn at hmn; split at hmn <;> omega
      have h2 : n ≤ 1099511627776 ∧ m ≤ 1099511627776 := by unfold mx at hmx; split at hmx <;> omega
      obtain ⟨N, rfl⟩ : ∃ N : Nat, n = (N : Int) := ⟨n.toNat, by omega⟩
      obtain ⟨M, rfl⟩ : ∃ M : Nat, m = (M : Int) := ⟨m.toNat, by omega⟩
      have h6 : (low N).length ≤ 6 := low_len 6 N (by omega)
      have hen := enc_len N
      simp only [garlandlaw01_NumOrder.j0, Bool.false_eq_true, if_false]
      rw [put_ok N (by omega), put_ok M (by omega)]
      simp only [Option.bind_some, if_true]
      rw [less_enc N M (by omega) (by omega)]
      have e : (decide (N < M) == decide ((N : Int) < (M : Int))) = true := by simp
      rw [if_pos e, if_pos (by omega), if_pos (by omega), wakes_of 19 (by decide)]
      rfl
end Go.Proofs.Ytnaohcimmafhkaa.Pure
