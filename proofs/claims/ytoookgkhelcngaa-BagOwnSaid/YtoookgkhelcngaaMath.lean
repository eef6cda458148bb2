/- What the law's wakes answers is true. -/
import Derived.Test.YtoookgkhelcngaaK1
import Derived.KernelRfl
namespace Go.Proofs.Ytoookgkhelcngaa.G
open Go.RowKit Go.Proofs.YtoookgkhelcngaaW.PrintWords Go.Proofs.YtoookgkhelcngaaW.PrintLast Go.Proofs.YtoookgkhelcngaaW.PrintMore
theorem wakes_10 : garlandlaw08_wakes.f 10 = some true := by kernel_rfl
theorem wakes_eq (k : Nat) (h : 10 ≤ k) : garlandlaw08_wakes.f k = some true := by
  obtain ⟨d, rfl⟩ : ∃ d, k = 10 + d := ⟨k - 10, by omega⟩
  clear h
  induction d with
  | zero => exact wakes_10
  | succ d ih => exact garlandlaw08_wakes.mono (10 + d) _ ih
theorem wakes_calls (w : World) : Calls Try.prog 6 #[] w fun e w' => e = .returned (.bool true) ∧ Below w.heap.size w w' := garlandlaw08_wakes.calls 10 true w wakes_10
end Go.Proofs.Ytoookgkhelcngaa.G
