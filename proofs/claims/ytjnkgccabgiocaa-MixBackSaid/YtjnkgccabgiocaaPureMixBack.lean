/- Before takes Next back, and Next Before, at all numbers and bytes. -/
import Derived.Test.YtjnkgccabgiocaaMath
namespace Go.Proofs.Ytjnkgccabgiocaa.Pure
open Go.RowKit Go.Proofs.Ytjnkgccabgiocaa.G Go.Proofs.Ytjnkgccabgiocaa.Math

theorem MixBack : garlandlaw04_MixBack.Pure := by
  intro a b _ _
  have hn := nx_range a b
  have hb := bf_range a b
  refine ⟨10, ?_⟩
  unfold garlandlaw04_MixBack.f
  simp only [next_eq, before_eq 10 (by omega), Option.bind_some, place, wakes_eq 10 (by omega), bf_nx, nx_bf, nx_mod, if_true, ge_iff_le]
  rw [if_pos hn.1, if_pos hn.2, if_pos hb.1, if_pos hb.2]

end Go.Proofs.Ytjnkgccabgiocaa.Pure
