/- Unlike states, by one bit, are unlike still; and by unlike bits a state becomes two. -/
import Derived.Test.YtnehegnnpfdfbaaG11
import Derived.Test.YtnehegnnpfdfbaaMath4
namespace Go.Proofs.Ytnehegnnpfdfbaa.Pure
open Go.RowKit Go.Proofs.Ytnehegnnpfdfbaa.G Go.Proofs.Ytnehegnnpfdfbaa.Math

theorem FrameSteps : garlandlaw05_FrameSteps.Pure := by
  intro s t x hs ht
  have hs := u32_range hs
  have ht := u32_range ht
  have e : (stepI s x == stepI t x) = (s == t) := by
    rw [Bool.eq_iff_iff]
    simp only [beq_iff_eq]
    exact ⟨stepI_inj s t hs ht x, fun h => by rw [h]⟩
  unfold garlandlaw05_FrameSteps.f
  simp only [step_some, Option.bind_some, e, wakes_true]
  rw [if_pos (by simp), if_pos (stepI_two s hs)]
end Go.Proofs.Ytnehegnnpfdfbaa.Pure
