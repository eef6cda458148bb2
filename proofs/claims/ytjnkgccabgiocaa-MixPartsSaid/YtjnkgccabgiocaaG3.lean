/- What calls of the program's functions answer: contracts, printed by this session's program (wip/tools/gprint.py) or told by hand. -/
import Derived.Test.YtjnkgccabgiocaaG0
import Derived.Test.YtjnkgccabgiocaaG2
import Derived.RangeFuncNested
import Derived.RangeFuncBound
import Derived.RangeFuncCalls
import Derived.RangeFuncLeaves
import Derived.Shelf.Abstract
import Derived.Shelf.RegionOpen
import Derived.WalkKit
import Derived.OwnWalkIn
import Derived.TacticsInMore
import Derived.LoopNIn
import Derived.LoopIn
import Derived.RangeFuncBox
import Derived.ScopeJumps
import Derived.WalkMore
namespace Go.Proofs.Ytjnkgccabgiocaa.G
open Go.RowKit Go.Proofs.YtjnkgccabgiocaaW.PrintWords Go.Proofs.YtjnkgccabgiocaaW.PrintLast Go.Proofs.YtjnkgccabgiocaaW.PrintMore
attribute [local go_sem] max2_int min2_int max_two min_two max_three min_three max_four min_four   -- for this text's walks alone
set_option linter.unusedVariables false
set_option linter.unusedSimpArgs false

/-! ### mix_Of: function 9 -/
open Go.Shelf
/-- A scope left by at most one goto, ahead. -/
theorem wp_scope_once {P : Program} {a : Act} {w : World} {Q : Exit → Act → World → Prop} {c rest : Code} (l : Nat) (hf : findLabel c l = some rest)
    (first : c.wp P (Exit.jump l (fun a w => rest.wp P (Exit.noGoto Q) a w) Q) a w) : (Code.scope c).wp P Q a w :=
  wp_scope_jumps l _ (fun _ _ => 0) hf first (fun a w hJ => wp_mono hJ (fun e a' w' h => by cases e <;> first | exact h.elim | exact h))
theorem Exit.jump_goto {l : Nat} {J : Act → World → Prop} {Q : Exit → Act → World → Prop} {a : Act} {w : World} (h : J a w) : Exit.jump l J Q (.goto l) a w := ⟨rfl, h⟩
theorem Exit.jump_ret {l : Nat} {J : Act → World → Prop} {Q : Exit → Act → World → Prop} {a : Act} {w : World} : Exit.jump l J Q .ret a w = Q .ret a w := rfl

def mix_Of.f (a0 : ByteArray) : Option (Int × Int) := if a0.size = 0 then some (0, 2) else if 20 < a0.size then some (0, 2) else (mix_Go.f 7 a0).bind fun p => some (p, 0)
theorem toList_len (s : ByteArray) : s.toList.length = s.size := by rw [ByteArray.toList_eq]; simp
set_option maxHeartbeats 2000000 in
theorem mix_Of.calls (a0 : ByteArray) (r1 : Int) (r2 : Int) (w : World) (h : mix_Of.f a0 = some (r1, r2)) :
    Calls Try.prog 9 #[.string a0] w fun e w' => e = .returned (.tuple #[.int .i64 r1, .int .i64 r2]) ∧ Below w.heap.size w w' := by
  unfold mix_Of.f at h
  by_cases h0 : a0.size = 0
  · rw [if_pos h0] at h
    simp only [Option.some.injEq, Prod.mk.injEq] at h
    obtain ⟨rfl, rfl⟩ := h
    have hl : a0.toList = [] := List.eq_nil_of_length_eq_zero (by rw [toList_len]; exact h0)
    have he : a0.toList.isEmpty = true := by rw [hl]; rfl
    clear h0
    go_enter Try.func9, Try.ntmps9
    go_wp2
    refine wp_scope_once 0 rfl ?_
    go_wp2
    go_step3
    refine ⟨rfl, ?_⟩
    go_wp2
    rw [Exit.noGoto_ret]
    go_ret2
    exact ⟨rfl, Below.refl _ _⟩
  · rw [if_neg h0] at h
    have hl : a0.toList.isEmpty = false := by
      cases e : a0.toList with
      | nil => exact absurd (by rw [← toList_len, e]; rfl) h0
      | cons => rfl
    have hl2 : ¬ a0.toList = [] := fun e => by rw [e] at hl; cases hl
    clear h0
    by_cases h1 : 20 < a0.size
    · rw [if_pos h1] at h
      simp only [Option.some.injEq, Prod.mk.injEq] at h
      obtain ⟨rfl, rfl⟩ := h
      go_enter Try.func9, Try.ntmps9
      go_wp2
      refine wp_scope_once 0 rfl ?_
      go_wp2
      go_step3
      refine ⟨rfl, ?_⟩
      go_wp2
      rw [Exit.noGoto_ret]
      go_ret2
      exact ⟨rfl, Below.refl _ _⟩
    · rw [if_neg h1] at h
      obtain ⟨p, hp, h⟩ := Option.bind_eq_some_iff.mp h
      simp only [Option.some.injEq, Prod.mk.injEq] at h
      obtain ⟨rfl, rfl⟩ := h
      have HP := Aside0.mk hp
      clear hp
      go_enter Try.func9, Try.ntmps9
      go_wp2
      go_step3
      go_wp2_with (go_at_call 17; refine (mix_Go.calls _ _ _ _ HP.out).mono ?_; rintro e w' ⟨rfl, hB⟩)
      rw [Exit.noGoto_ret]
      go_ret2
      exact ⟨rfl, hB⟩


end Go.Proofs.Ytjnkgccabgiocaa.G
