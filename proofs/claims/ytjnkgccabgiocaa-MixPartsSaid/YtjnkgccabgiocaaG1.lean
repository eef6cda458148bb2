/- What calls of the program's functions answer: contracts, printed by this session's program (wip/tools/gprint.py) or told by hand. -/
import Derived.Test.YtjnkgccabgiocaaG0
namespace Go.Proofs.Ytjnkgccabgiocaa.G
open Go.RowKit Go.Proofs.YtjnkgccabgiocaaW.PrintWords Go.Proofs.YtjnkgccabgiocaaW.PrintLast Go.Proofs.YtjnkgccabgiocaaW.PrintMore
attribute [local go_sem] max2_int min2_int max_two min_two max_three min_three max_four min_four   -- for this text's walks alone
set_option linter.unusedVariables false
set_option linter.unusedSimpArgs false

/-! ### mix_Next: function 13 -/
def mix_Next.f (a0 : Int) (a1 : Int) : Option (Int) := some (wrap64 (IntKind.u16.wrap ((IntKind.u16.wrap ((IntKind.u16.wrap ((IntKind.u16.wrap (a0)) * 40503)) + (IntKind.u16.wrap (a1)))) + 1)))
set_option maxHeartbeats 8000000 in
set_option maxRecDepth 100000 in
theorem mix_Next.calls (a0 : Int) (a1 : Int) (r : Int) (w : World) (h : mix_Next.f a0 a1 = some r) :
    Calls Try.prog 13 #[.int .i64 a0, .int .u8 a1] w fun e w' => e = .returned (.int .i64 r) ∧ Drawn0 w w' := by
  have H : (some (wrap64 (IntKind.u16.wrap ((IntKind.u16.wrap ((IntKind.u16.wrap ((IntKind.u16.wrap (a0)) * 40503)) + (IntKind.u16.wrap (a1)))) + 1)))) = some r := h
  clear h
  obtain rfl := Option.some.inj H
  go_enter Try.func13, Try.ntmps13
  go_wp2
  go_ret
  exact ⟨by first | rfl | (simp; done) | (simp [*]; done), by repeat (first | exact Drawn0.refl _ | apply Drawn0.step)⟩

-- NOT PRINTED: function 23 (mix_all)

end Go.Proofs.Ytjnkgccabgiocaa.G
