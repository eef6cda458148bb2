/- What calls of the program's functions answer: contracts, printed by this session's program (wip/tools/gprint.py) or told by hand. -/
import Derived.Test.YtnehegnnpfdfbaaG0
import Derived.Test.YtnehegnnpfdfbaaG1
import Derived.Test.YtnehegnnpfdfbaaG7
namespace Go.Proofs.Ytnehegnnpfdfbaa.G
open Go.RowKit Go.Proofs.YtnehegnnpfdfbaaW.PrintWords Go.Proofs.YtnehegnnpfdfbaaW.PrintLast Go.Proofs.YtnehegnnpfdfbaaW.PrintMore
attribute [local go_sem] max2_int min2_int max_two min_two max_three min_three max_four min_four   -- for this text's walks alone
set_option linter.unusedVariables false
set_option linter.unusedSimpArgs false

/-! ### garlandlaw05_FrameSteps: function 7 -/
def garlandlaw05_FrameSteps.f (a0 : Int) (a1 : Int) (a2 : Bool) : Option (Bool) := (frame_Step.f a0 a2).bind fun t319 => ((frame_Step.f a1 a2).bind fun t320 => (if ((t319 == t320) == (a0 == a1)) = true then ((frame_Step.f a0 true).bind fun t321 => ((frame_Step.f a0 false).bind fun t322 => (if t321 = (Go.bits .xor .u32 t322 1) then ((garlandlaw05_wakes.f).bind fun t323 => (some t323)) else (none)))) else (none)))
set_option maxHeartbeats 8000000 in
set_option maxRecDepth 100000 in
theorem garlandlaw05_FrameSteps.calls (a0 : Int) (a1 : Int) (a2 : Bool) (r : Bool) (w : World) (h : garlandlaw05_FrameSteps.f a0 a1 a2 = some r) :
    Calls Try.prog 7 #[.int .u32 a0, .int .u32 a1, .bool a2] w fun e w' => e = .returned (.bool r) ∧ Below w.heap.size w w' := by
  have HB := Aside0.mk (Below.refl w.heap.size w)
  have H : ((frame_Step.f a0 a2).bind fun t319 => ((frame_Step.f a1 a2).bind fun t320 => (if ((t319 == t320) == (a0 == a1)) = true then ((frame_Step.f a0 true).bind fun t321 => ((frame_Step.f a0 false).bind fun t322 => (if t321 = (Go.bits .xor .u32 t322 1) then ((garlandlaw05_wakes.f).bind fun t323 => (some t323)) else (none)))) else (none)))) = some r := h
  clear h
  replace H := Option.bind_eq_some_iff.mp H
  obtain ⟨t319, A40, H⟩ := H
  replace H : ((frame_Step.f a1 a2).bind fun t320 => (if ((t319 == t320) == (a0 == a1)) = true then ((frame_Step.f a0 true).bind fun t321 => ((frame_Step.f a0 false).bind fun t322 => (if t321 = (Go.bits .xor .u32 t322 1) then ((garlandlaw05_wakes.f).bind fun t323 => (some t323)) else (none)))) else (none))) = some r := H
  have A4 := Aside0.mk A40
  clear A40
  replace H := Option.bind_eq_some_iff.mp H
  obtain ⟨t320, A50, H⟩ := H
  replace H : (if ((t319 == t320) == (a0 == a1)) = true then ((frame_Step.f a0 true).bind fun t321 => ((frame_Step.f a0 false).bind fun t322 => (if t321 = (Go.bits .xor .u32 t322 1) then ((garlandlaw05_wakes.f).bind fun t323 => (some t323)) else (none)))) else (none)) = some r := H
  have A5 := Aside0.mk A50
  clear A50
  by_cases c6 : ((t319 == t320) == (a0 == a1)) = true
  · rw [if_pos c6] at H
    have c6b0 : ((t319 == t320) == (a0 == a1)) = true := c6
    (try (have c6b1 : decide ((t319 == t320) = (a0 == a1)) = true := by simpa using c6))
    (try (have c6b2 : ((t319 == t320) == (a0 == a1)) = true := by simpa using c6))
    clear c6
    replace H := Option.bind_eq_some_iff.mp H
    obtain ⟨t321, A70, H⟩ := H
    replace H : ((frame_Step.f a0 false).bind fun t322 => (if t321 = (Go.bits .xor .u32 t322 1) then ((garlandlaw05_wakes.f).bind fun t323 => (some t323)) else (none))) = some r := H
    have A7 := Aside0.mk A70
    clear A70
    replace H := Option.bind_eq_some_iff.mp H
    obtain ⟨t322, A80, H⟩ := H
    replace H : (if t321 = (Go.bits .xor .u32 t322 1) then ((garlandlaw05_wakes.f).bind fun t323 => (some t323)) else (none)) = some r := H
    have A8 := Aside0.mk A80
    clear A80
    by_cases c9 : t321 = (Go.bits .xor .u32 t322 1)
    · rw [if_pos c9] at H
      have c9b0 : (t321 == (Go.bits .xor .u32 t322 1)) = true := beq_iff_eq.mpr c9
      have c9b1 : (t321 != (Go.bits .xor .u32 t322 1)) = false := bne_eq_false_iff_eq.mpr c9
      clear c9
      replace H := Option.bind_eq_some_iff.mp H
      obtain ⟨t323, A100, H⟩ := H
      replace H : (some t323) = some r := H
      have A10 := Aside0.mk A100
      clear A100
      obtain rfl := Option.some.inj H
      go_enter Try.func7, Try.ntmps7
      go_wp2_with (first | ((with_reducible refine gate_callee (f := 14) rfl ?_); refine goesL_ (some 9) rfl rfl Try.func14 (by kernel_rfl) rfl #[.int .u32 a0, .bool a2] rfl (by (try simp only [List.map_toArray, List.map_cons, List.map_nil]); first | done | rfl | (simp only [List.length_drop, List.length_take]; rfl)) ?_; (with_reducible refine (frame_Step.calls a0 a2 t319 _ A4.out).mono ?_); rintro e w' ⟨rfl, ⟨nd, rfl⟩⟩; refine ⟨_, rfl, ?_⟩) | ((with_reducible refine gate_callee (f := 14) rfl ?_); refine goesL_ (some 12) rfl rfl Try.func14 (by kernel_rfl) rfl #[.int .u32 a1, .bool a2] rfl (by (try simp only [List.map_toArray, List.map_cons, List.map_nil]); first | done | rfl | (simp only [List.length_drop, List.length_take]; rfl)) ?_; (with_reducible refine (frame_Step.calls a1 a2 t320 _ A5.out).mono ?_); rintro e w' ⟨rfl, ⟨nd, rfl⟩⟩; refine ⟨_, rfl, ?_⟩) | (go_at_call 14; (with_reducible refine (frame_Step.calls a0 true t321 _ A7.out).mono ?_); rintro e w' ⟨rfl, ⟨nd, rfl⟩⟩) | (go_at_call 14; (with_reducible refine (frame_Step.calls a0 false t322 _ A8.out).mono ?_); rintro e w' ⟨rfl, ⟨nd, rfl⟩⟩) | (go_at_call 9; (with_reducible refine (garlandlaw05_wakes.calls  t323 _ A10.out).mono ?_); rintro e w11 ⟨rfl, hb⟩; have n0_ := Aside0.mk (below_step (by repeat (first | (with_reducible first | exact HB.out | apply below_alloc | apply pw_below_drewN | apply below_drew1) | exact HB.out)) hb); clear HB; have HB := n0_; clear n0_; (try clear hb); (try clear hb2); (try clear hk); (try clear hi)))
      go_ret
      exact ⟨by first | rfl | (simp [errW_none, errW_some] <;> rfl) | (simp [*, errW_none, errW_some] <;> rfl), by repeat (first | (with_reducible first | exact HB.out | apply below_alloc | apply pw_below_drewN | apply below_drew1) | exact HB.out)⟩
    · rw [if_neg c9] at H
      exact absurd H (by simp)
  · rw [if_neg c6] at H
    exact absurd H (by simp)

/-- THE ONE PURE STATEMENT of garlandlaw05_FrameSteps: yours. -/
def garlandlaw05_FrameSteps.Pure : Prop := ∀ (a0 : Int) (a1 : Int) (a2 : Bool), (Lit.int .u32 a0).wf = true → (Lit.int .u32 a1).wf = true → garlandlaw05_FrameSteps.f a0 a1 a2 = some true
theorem garlandlaw05_FrameSteps.walk (P : garlandlaw05_FrameSteps.Pure) (a0 : Int) (a1 : Int) (a2 : Bool) (w : World) (w0 : (Lit.int .u32 a0).wf = true) (w1 : (Lit.int .u32 a1).wf = true) :
    Calls Try.prog 7 #[.int .u32 a0, .int .u32 a1, .bool a2] w fun e w' => e = .returned (.bool true) ∧ Below w.heap.size w w' := by
  have h := P a0 a1 a2 w0 w1
  refine (garlandlaw05_FrameSteps.calls a0 a1 a2 true w h).mono ?_
  rintro e w' ⟨rfl, hd⟩
  exact ⟨rfl, hd⟩

end Go.Proofs.Ytnehegnnpfdfbaa.G
