/- The short ways of MixOne: a key that is empty or too long, or nothing that it is put together with. -/
import Derived.Test.YtjnkgccabgiocaaG3
import Derived.Test.YtjnkgccabgiocaaG4
import Derived.Test.YtjnkgccabgiocaaMath3
import Derived.Lib.ConvBytes
import Derived.Laws.BytesArg
import Derived.WalkSpells
import Derived.WalkMore
namespace Go.Proofs.Ytjnkgccabgiocaa.G
open Go.RowKit Go.Proofs.YtjnkgccabgiocaaW.PrintWords Go.Proofs.YtjnkgccabgiocaaW.PrintLast Go.Proofs.YtjnkgccabgiocaaW.PrintMore
open Go.Proofs.Ytjnkgccabgiocaa.Math
set_option linter.unusedVariables false
set_option linter.unusedSimpArgs false

/-- What the two tests of the law want of a key and two places. -/
structure OneFacts (s : ByteArray) (J x by_ p q : Int) (l : List Int) : Prop where
  ne : goN 7 (nums s) ≠ goN 7 l
  iff : (goN p (nums s) == goN q (nums s)) = (p == q)

set_option maxRecDepth 100000 in
set_option maxHeartbeats 8000000 in
theorem MixOne_short (s : ByteArray) (at_ by_ p q : Int) (W : World) (h : s.size < 1 ∨ 20 < s.size ∨ by_ = 0) :
    Calls Try.prog 5 #[.string s, .int .i64 at_, .int .u8 by_, .int .i64 p, .int .i64 q] W fun e w' => e = .returned (.bool true) ∧ Below W.heap.size W w' := by
  rcases Nat.lt_or_ge s.size 1 with h1 | h1
  · go_enter Try.func5, Try.ntmps5
    go_wp2_with (go_at_call 8; refine (garlandlaw04_wakes.calls 10 true _ (wakes_eq 10 (by decide))).mono ?_; rintro e w1 ⟨rfl, hb1⟩)
    go_ret
    exact ⟨rfl, hb1⟩
  · rcases Nat.lt_or_ge 20 s.size with h2 | h2
    · go_enter Try.func5, Try.ntmps5
      go_wp2_with (go_at_call 8; refine (garlandlaw04_wakes.calls 10 true _ (wakes_eq 10 (by decide))).mono ?_; rintro e w1 ⟨rfl, hb1⟩)
      go_ret
      exact ⟨rfl, hb1⟩
    · obtain rfl : by_ = 0 := by omega
      go_enter Try.func5, Try.ntmps5
      go_wp2_with (go_at_call 8; refine (garlandlaw04_wakes.calls 10 true _ (wakes_eq 10 (by decide))).mono ?_; rintro e w1 ⟨rfl, hb1⟩)
      go_ret
      exact ⟨rfl, hb1⟩
end Go.Proofs.Ytjnkgccabgiocaa.G
