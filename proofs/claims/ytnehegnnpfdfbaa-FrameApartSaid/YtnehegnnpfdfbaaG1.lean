/- What calls of the program's functions answer: contracts, printed by this session's program (wip/tools/gprint.py) or told by hand. -/
import Derived.Test.YtnehegnnpfdfbaaG0
namespace Go.Proofs.Ytnehegnnpfdfbaa.G
open Go.RowKit Go.Proofs.YtnehegnnpfdfbaaW.PrintWords Go.Proofs.YtnehegnnpfdfbaaW.PrintLast Go.Proofs.YtnehegnnpfdfbaaW.PrintMore
attribute [local go_sem] max2_int min2_int max_two min_two max_three min_three max_four min_four   -- for this text's walks alone
set_option linter.unusedVariables false
set_option linter.unusedSimpArgs false

/-! ### frame_Step: function 14 -/
def frame_Step.f (a0 : Int) (a1 : Bool) : Option (Int) := if a1 = true then (some (Go.bits .xor .u32 (a0 * 2 % 4294967296 + 1) (Go.bits .and .u32 ((-(a0 / 2147483648)) % 4294967296) 1947962583))) else (some (Go.bits .xor .u32 ((a0 * 2) % 4294967296) (Go.bits .and .u32 ((-(a0 / 2147483648)) % 4294967296) 1947962583)))
set_option maxHeartbeats 8000000 in
set_option maxRecDepth 100000 in
theorem frame_Step.calls (a0 : Int) (a1 : Bool) (r : Int) (w : World) (h : frame_Step.f a0 a1 = some r) :
    Calls Try.prog 14 #[.int .u32 a0, .bool a1] w fun e w' => e = .returned (.int .u32 r) ∧ Drawn0 w w' := by
  unfold frame_Step.f at h
  cases a1 with
  | true =>
    rw [if_pos rfl] at h
    obtain rfl := Option.some.inj h
    clear h
    go_enter Try.func14, Try.ntmps14
    go_wp2
    go_ret
    exact ⟨rfl, Drawn0.refl _⟩
  | false =>
    rw [if_neg (by decide)] at h
    obtain rfl := Option.some.inj h
    clear h
    go_enter Try.func14, Try.ntmps14
    go_wp2
    go_ret
    exact ⟨rfl, Drawn0.refl _⟩


end Go.Proofs.Ytnehegnnpfdfbaa.G
