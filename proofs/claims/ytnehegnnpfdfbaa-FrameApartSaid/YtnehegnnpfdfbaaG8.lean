/- What calls of the program's functions answer: contracts, printed by this session's program (wip/tools/gprint.py) or told by hand. -/
import Derived.Test.YtnehegnnpfdfbaaG0
import Derived.Test.YtnehegnnpfdfbaaG1
import Derived.Test.YtnehegnnpfdfbaaG3
import Derived.Test.YtnehegnnpfdfbaaG4
import Derived.Test.YtnehegnnpfdfbaaG6
import Derived.Test.YtnehegnnpfdfbaaG7
namespace Go.Proofs.Ytnehegnnpfdfbaa.G
open Go.RowKit Go.Proofs.YtnehegnnpfdfbaaW.PrintWords Go.Proofs.YtnehegnnpfdfbaaW.PrintLast Go.Proofs.YtnehegnnpfdfbaaW.PrintMore
attribute [local go_sem] max2_int min2_int max_two min_two max_three min_three max_four min_four   -- for this text's walks alone
set_option linter.unusedVariables false
set_option linter.unusedSimpArgs false

/-! ### garlandlaw05_FrameTells: function 3 -/
def garlandlaw05_FrameTells.f (k : Nat) (a0 : Int) (a1 : Bool) (l2 : List Int) (a3 : Int) : Option (Bool) := if (l2.length : Int) > 300 then ((garlandlaw05_wakes.f).bind fun t201 => (some t201)) else ((frame_Close.f l2).bind fun bt202 => ((garlandref05_Close.f k l2).bind fun bt206 => ((frame_Open.f l2).bind fun bt210 => ((garlandref05_Open.f k l2).bind fun bt214 => ((frame_Step.f a0 a1).bind fun t218 => ((garlandref05_Step.f a0 a1).bind fun t219 => (if t218 = t219 then ((frame_Sum.f l2).bind fun t220 => ((garlandref05_Sum.f k l2).bind fun t221 => (if t220 = t221 then ((garlandlaw05_same.f bt202.1 bt206.1).bind fun t222 => (if t222 = true then (if bt202.2 = bt206.2 then ((garlandlaw05_same.f bt210.1 bt214.1).bind fun t223 => (if t223 = true then (if bt210.2 = bt214.2 then ((frame_Size.f a3).bind fun t224 => ((garlandref05_Size.f a3).bind fun t225 => (if t224 = t225 then ((garlandlaw05_wakes.f).bind fun t226 => (some t226)) else (none)))) else (none)) else (none))) else (none)) else (none))) else (none)))) else (none))))))))
theorem garlandlaw05_FrameTells.mono : ∀ a0 a1 a2 a3 k, LeO (garlandlaw05_FrameTells.f k a0 a1 a2 a3) (garlandlaw05_FrameTells.f (k + 1) a0 a1 a2 a3) := by
  intro a0 a1 a2 a3 k
  unfold garlandlaw05_FrameTells.f
  repeat' first
      | (with_reducible exact garlandref05_Close.mono _ _)
      | (with_reducible exact garlandref05_Open.mono _ _)
      | (with_reducible exact garlandref05_Sum.mono _ _)
      | (with_reducible exact LeO.refl _)
      | (with_reducible exact LeO.none _)
      | (with_reducible refine LeO.ite ?_ ?_)
      | (with_reducible refine LeO.bind ?_ (fun _ => ?_))
      | exact garlandref05_Close.mono _ _
      | exact garlandref05_Open.mono _ _
      | exact garlandref05_Sum.mono _ _
      | exact LeO.none _
      | refine LeO.ite ?_ ?_
      | refine LeO.bind ?_ (fun _ => ?_)
set_option maxHeartbeats 8000000 in
set_option maxRecDepth 100000 in
theorem garlandlaw05_FrameTells.calls (k : Nat) (a0 : Int) (a1 : Bool) (A2 : Option Addr) (c2 : Nat) (l2 : List Int) (a3 : Int) (r : Bool) (w : World) (hr2 : Kd.C (Kd.int .u8) w A2 l2.length l2) (hc2 : l2.length ≤ c2) (h : garlandlaw05_FrameTells.f k a0 a1 l2 a3 = some r) :
    Calls Try.prog 3 #[.int .u32 a0, .bool a1, .slice A2 l2.length c2, .int .i64 a3] w fun e w' => e = .returned (.bool r) ∧ Below w.heap.size w w' := by
  have HR2 := Aside0.mk hr2
  have HC2 := Aside0.mk hc2
  clear hr2 hc2
  have HB := Aside0.mk (Below.refl w.heap.size w)
  have H : (if (l2.length : Int) > 300 then ((garlandlaw05_wakes.f).bind fun t201 => (some t201)) else ((frame_Close.f l2).bind fun bt202 => ((garlandref05_Close.f k l2).bind fun bt206 => ((frame_Open.f l2).bind fun bt210 => ((garlandref05_Open.f k l2).bind fun bt214 => ((frame_Step.f a0 a1).bind fun t218 => ((garlandref05_Step.f a0 a1).bind fun t219 => (if t218 = t219 then ((frame_Sum.f l2).bind fun t220 => ((garlandref05_Sum.f k l2).bind fun t221 => (if t220 = t221 then ((garlandlaw05_same.f bt202.1 bt206.1).bind fun t222 => (if t222 = true then (if bt202.2 = bt206.2 then ((garlandlaw05_same.f bt210.1 bt214.1).bind fun t223 => (if t223 = true then (if bt210.2 = bt214.2 then ((frame_Size.f a3).bind fun t224 => ((garlandref05_Size.f a3).bind fun t225 => (if t224 = t225 then ((garlandlaw05_wakes.f).bind fun t226 => (some t226)) else (none)))) else (none)) else (none))) else (none)) else (none))) else (none)))) else (none))))))))) = some r := h
  clear h
  by_cases c5 : (l2.length : Int) > 300
  · rw [if_pos c5] at H
    have c5b0 : decide (300 < (l2.length : Int)) = true := decide_eq_true c5
    have c5b1 : decide (300 < l2.length) = true := decide_eq_true (by omega)
    clear c5
    replace H := Option.bind_eq_some_iff.mp H
    obtain ⟨t201, A60, H⟩ := H
    replace H : (some t201) = some r := H
    have A6 := Aside0.mk A60
    clear A60
    obtain rfl := Option.some.inj H
    go_enter Try.func3, Try.ntmps3
    go_wp2_with (first | ((with_reducible refine gate_callee (f := 9) rfl ?_); refine goesL_ (some 20) rfl rfl Try.func9 (by kernel_rfl) rfl #[] rfl (by (try simp only [List.map_toArray, List.map_cons, List.map_nil]); first | done | rfl | (simp only [List.length_drop, List.length_take]; rfl)) ?_; (with_reducible refine (garlandlaw05_wakes.calls  t201 _ A6.out).mono ?_); rintro e w7 ⟨rfl, hb⟩; refine ⟨_, rfl, ?_⟩; have n0_ := Aside0.mk (below_step (by repeat (first | (with_reducible first | exact HB.out | apply below_alloc | apply pw_below_drewN | apply below_drew1) | exact HB.out)) hb); clear HB; have HB := n0_; clear n0_; (try clear hb); (try clear hb2); (try clear hk); (try clear hi)))
    go_ret
    exact ⟨by first | rfl | (simp [errW_none, errW_some] <;> rfl) | (simp [*, errW_none, errW_some] <;> rfl), by repeat (first | (with_reducible first | exact HB.out | apply below_alloc | apply pw_below_drewN | apply below_drew1) | exact HB.out)⟩
  · rw [if_neg c5] at H
    have c5b0 : decide (300 < (l2.length : Int)) = false := decide_eq_false c5
    have c5b1 : decide (300 < l2.length) = false := decide_eq_false (by omega)
    clear c5
    replace H := Option.bind_eq_some_iff.mp H
    obtain ⟨⟨t202, t203⟩, A80, H⟩ := H
    replace H : ((garlandref05_Close.f k l2).bind fun bt206 => ((frame_Open.f l2).bind fun bt210 => ((garlandref05_Open.f k l2).bind fun bt214 => ((frame_Step.f a0 a1).bind fun t218 => ((garlandref05_Step.f a0 a1).bind fun t219 => (if t218 = t219 then ((frame_Sum.f l2).bind fun t220 => ((garlandref05_Sum.f k l2).bind fun t221 => (if t220 = t221 then ((garlandlaw05_same.f t202 bt206.1).bind fun t222 => (if t222 = true then (if t203 = bt206.2 then ((garlandlaw05_same.f bt210.1 bt214.1).bind fun t223 => (if t223 = true then (if bt210.2 = bt214.2 then ((frame_Size.f a3).bind fun t224 => ((garlandref05_Size.f a3).bind fun t225 => (if t224 = t225 then ((garlandlaw05_wakes.f).bind fun t226 => (some t226)) else (none)))) else (none)) else (none))) else (none)) else (none))) else (none)))) else (none))))))) = some r := H
    have A8 := Aside0.mk A80
    clear A80
    replace H := Option.bind_eq_some_iff.mp H
    obtain ⟨⟨t206, t207⟩, A90, H⟩ := H
    replace H : ((frame_Open.f l2).bind fun bt210 => ((garlandref05_Open.f k l2).bind fun bt214 => ((frame_Step.f a0 a1).bind fun t218 => ((garlandref05_Step.f a0 a1).bind fun t219 => (if t218 = t219 then ((frame_Sum.f l2).bind fun t220 => ((garlandref05_Sum.f k l2).bind fun t221 => (if t220 = t221 then ((garlandlaw05_same.f t202 t206).bind fun t222 => (if t222 = true then (if t203 = t207 then ((garlandlaw05_same.f bt210.1 bt214.1).bind fun t223 => (if t223 = true then (if bt210.2 = bt214.2 then ((frame_Size.f a3).bind fun t224 => ((garlandref05_Size.f a3).bind fun t225 => (if t224 = t225 then ((garlandlaw05_wakes.f).bind fun t226 => (some t226)) else (none)))) else (none)) else (none))) else (none)) else (none))) else (none)))) else (none)))))) = some r := H
    have A9 := Aside0.mk A90
    clear A90
    replace H := Option.bind_eq_some_iff.mp H
    obtain ⟨⟨t210, t211⟩, A100, H⟩ := H
    replace H : ((garlandref05_Open.f k l2).bind fun bt214 => ((frame_Step.f a0 a1).bind fun t218 => ((garlandref05_Step.f a0 a1).bind fun t219 => (if t218 = t219 then ((frame_Sum.f l2).bind fun t220 => ((garlandref05_Sum.f k l2).bind fun t221 => (if t220 = t221 then ((garlandlaw05_same.f t202 t206).bind fun t222 => (if t222 = true then (if t203 = t207 then ((garlandlaw05_same.f t210 bt214.1).bind fun t223 => (if t223 = true then (if t211 = bt214.2 then ((frame_Size.f a3).bind fun t224 => ((garlandref05_Size.f a3).bind fun t225 => (if t224 = t225 then ((garlandlaw05_wakes.f).bind fun t226 => (some t226)) else (none)))) else (none)) else (none))) else (none)) else (none))) else (none)))) else (none))))) = some r := H
    have A10 := Aside0.mk A100
    clear A100
    replace H := Option.bind_eq_some_iff.mp H
    obtain ⟨⟨t214, t215⟩, A110, H⟩ := H
    replace H : ((frame_Step.f a0 a1).bind fun t218 => ((garlandref05_Step.f a0 a1).bind fun t219 => (if t218 = t219 then ((frame_Sum.f l2).bind fun t220 => ((garlandref05_Sum.f k l2).bind fun t221 => (if t220 = t221 then ((garlandlaw05_same.f t202 t206).bind fun t222 => (if t222 = true then (if t203 = t207 then ((garlandlaw05_same.f t210 t214).bind fun t223 => (if t223 = true then (if t211 = t215 then ((frame_Size.f a3).bind fun t224 => ((garlandref05_Size.f a3).bind fun t225 => (if t224 = t225 then ((garlandlaw05_wakes.f).bind fun t226 => (some t226)) else (none)))) else (none)) else (none))) else (none)) else (none))) else (none)))) else (none)))) = some r := H
    have A11 := Aside0.mk A110
    clear A110
    replace H := Option.bind_eq_some_iff.mp H
    obtain ⟨t218, A120, H⟩ := H
    replace H : ((garlandref05_Step.f a0 a1).bind fun t219 => (if t218 = t219 then ((frame_Sum.f l2).bind fun t220 => ((garlandref05_Sum.f k l2).bind fun t221 => (if t220 = t221 then ((garlandlaw05_same.f t202 t206).bind fun t222 => (if t222 = true then (if t203 = t207 then ((garlandlaw05_same.f t210 t214).bind fun t223 => (if t223 = true then (if t211 = t215 then ((frame_Size.f a3).bind fun t224 => ((garlandref05_Size.f a3).bind fun t225 => (if t224 = t225 then ((garlandlaw05_wakes.f).bind fun t226 => (some t226)) else (none)))) else (none)) else (none))) else (none)) else (none))) else (none)))) else (none))) = some r := H
    have A12 := Aside0.mk A120
    clear A120
    replace H := Option.bind_eq_some_iff.mp H
    obtain ⟨t219, A130, H⟩ := H
    replace H : (if t218 = t219 then ((frame_Sum.f l2).bind fun t220 => ((garlandref05_Sum.f k l2).bind fun t221 => (if t220 = t221 then ((garlandlaw05_same.f t202 t206).bind fun t222 => (if t222 = true then (if t203 = t207 then ((garlandlaw05_same.f t210 t214).bind fun t223 => (if t223 = true then (if t211 = t215 then ((frame_Size.f a3).bind fun t224 => ((garlandref05_Size.f a3).bind fun t225 => (if t224 = t225 then ((garlandlaw05_wakes.f).bind fun t226 => (some t226)) else (none)))) else (none)) else (none))) else (none)) else (none))) else (none)))) else (none)) = some r := H
    have A13 := Aside0.mk A130
    clear A130
    by_cases c14 : t218 = t219
    · rw [if_pos c14] at H
      have c14b0 : (t218 == t219) = true := beq_iff_eq.mpr c14
      have c14b1 : (t218 != t219) = false := bne_eq_false_iff_eq.mpr c14
      clear c14
      replace H := Option.bind_eq_some_iff.mp H
      obtain ⟨t220, A150, H⟩ := H
      replace H : ((garlandref05_Sum.f k l2).bind fun t221 => (if t220 = t221 then ((garlandlaw05_same.f t202 t206).bind fun t222 => (if t222 = true then (if t203 = t207 then ((garlandlaw05_same.f t210 t214).bind fun t223 => (if t223 = true then (if t211 = t215 then ((frame_Size.f a3).bind fun t224 => ((garlandref05_Size.f a3).bind fun t225 => (if t224 = t225 then ((garlandlaw05_wakes.f).bind fun t226 => (some t226)) else (none)))) else (none)) else (none))) else (none)) else (none))) else (none))) = some r := H
      have A15 := Aside0.mk A150
      clear A150
      replace H := Option.bind_eq_some_iff.mp H
      obtain ⟨t221, A160, H⟩ := H
      replace H : (if t220 = t221 then ((garlandlaw05_same.f t202 t206).bind fun t222 => (if t222 = true then (if t203 = t207 then ((garlandlaw05_same.f t210 t214).bind fun t223 => (if t223 = true then (if t211 = t215 then ((frame_Size.f a3).bind fun t224 => ((garlandref05_Size.f a3).bind fun t225 => (if t224 = t225 then ((garlandlaw05_wakes.f).bind fun t226 => (some t226)) else (none)))) else (none)) else (none))) else (none)) else (none))) else (none)) = some r := H
      have A16 := Aside0.mk A160
      clear A160
      by_cases c17 : t220 = t221
      · rw [if_pos c17] at H
        have c17b0 : (t220 == t221) = true := beq_iff_eq.mpr c17
        have c17b1 : (t220 != t221) = false := bne_eq_false_iff_eq.mpr c17
        clear c17
        replace H := Option.bind_eq_some_iff.mp H
        obtain ⟨t222, A180, H⟩ := H
        replace H : (if t222 = true then (if t203 = t207 then ((garlandlaw05_same.f t210 t214).bind fun t223 => (if t223 = true then (if t211 = t215 then ((frame_Size.f a3).bind fun t224 => ((garlandref05_Size.f a3).bind fun t225 => (if t224 = t225 then ((garlandlaw05_wakes.f).bind fun t226 => (some t226)) else (none)))) else (none)) else (none))) else (none)) else (none)) = some r := H
        have A18 := Aside0.mk A180
        clear A180
        by_cases c19 : t222 = true
        · subst c19
          have H1 : (if t203 = t207 then ((garlandlaw05_same.f t210 t214).bind fun t223 => (if t223 = true then (if t211 = t215 then ((frame_Size.f a3).bind fun t224 => ((garlandref05_Size.f a3).bind fun t225 => (if t224 = t225 then ((garlandlaw05_wakes.f).bind fun t226 => (some t226)) else (none)))) else (none)) else (none))) else (none)) = some r := by rw [if_pos rfl] at H; exact H
          clear H
          have H := H1
          clear H1
          by_cases c20 : t203 = t207
          · rw [if_pos c20] at H
            have c20b0 : (t203 == t207) = true := beq_iff_eq.mpr c20
            have c20b1 : (t203 != t207) = false := bne_eq_false_iff_eq.mpr c20
            clear c20
            replace H := Option.bind_eq_some_iff.mp H
            obtain ⟨t223, A210, H⟩ := H
            replace H : (if t223 = true then (if t211 = t215 then ((frame_Size.f a3).bind fun t224 => ((garlandref05_Size.f a3).bind fun t225 => (if t224 = t225 then ((garlandlaw05_wakes.f).bind fun t226 => (some t226)) else (none)))) else (none)) else (none)) = some r := H
            have A21 := Aside0.mk A210
            clear A210
            by_cases c22 : t223 = true
            · subst c22
              have H1 : (if t211 = t215 then ((frame_Size.f a3).bind fun t224 => ((garlandref05_Size.f a3).bind fun t225 => (if t224 = t225 then ((garlandlaw05_wakes.f).bind fun t226 => (some t226)) else (none)))) else (none)) = some r := by rw [if_pos rfl] at H; exact H
              clear H
              have H := H1
              clear H1
              by_cases c23 : t211 = t215
              · rw [if_pos c23] at H
                have c23b0 : (t211 == t215) = true := beq_iff_eq.mpr c23
                have c23b1 : (t211 != t215) = false := bne_eq_false_iff_eq.mpr c23
                clear c23
                replace H := Option.bind_eq_some_iff.mp H
                obtain ⟨t224, A240, H⟩ := H
                replace H : ((garlandref05_Size.f a3).bind fun t225 => (if t224 = t225 then ((garlandlaw05_wakes.f).bind fun t226 => (some t226)) else (none))) = some r := H
                have A24 := Aside0.mk A240
                clear A240
                replace H := Option.bind_eq_some_iff.mp H
                obtain ⟨t225, A250, H⟩ := H
                replace H : (if t224 = t225 then ((garlandlaw05_wakes.f).bind fun t226 => (some t226)) else (none)) = some r := H
                have A25 := Aside0.mk A250
                clear A250
                by_cases c26 : t224 = t225
                · rw [if_pos c26] at H
                  have c26b0 : (t224 == t225) = true := beq_iff_eq.mpr c26
                  have c26b1 : (t224 != t225) = false := bne_eq_false_iff_eq.mpr c26
                  clear c26
                  replace H := Option.bind_eq_some_iff.mp H
                  obtain ⟨t226, A270, H⟩ := H
                  replace H : (some t226) = some r := H
                  have A27 := Aside0.mk A270
                  clear A270
                  obtain rfl := Option.some.inj H
                  go_enter Try.func3, Try.ntmps3
                  go_wp2_with (first | ((with_reducible refine gate_callee (f := 10) rfl ?_); refine goesL_ (some 23) rfl rfl Try.func10 (by kernel_rfl) rfl #[.slice A2 l2.length c2] rfl (by (try simp only [List.map_toArray, List.map_cons, List.map_nil]); first | done | rfl | (simp only [List.length_drop, List.length_take]; rfl)) ?_; (with_reducible refine (frame_Close.calls _ _ l2 t202 t203 _ ?side1 ?side2 A8.out).mono ?_); (case side1 => repeat (first | exact HR2.out | (with_reducible refine Kd.C_alloc ?_ _) | (with_reducible refine Kd.C_drewN ?_ _) | (with_reducible refine Kd.C_drew ?_))); (case side2 => exact HC2.out); rintro e w28 ⟨v204, rfl, ho0, hb⟩; refine ⟨_, rfl, ?_⟩; have n0_ := Aside0.mk (Kd.R_lower ho0 (below_size (by repeat (first | (with_reducible first | exact HB.out | apply below_alloc | apply pw_below_drewN | apply below_drew1) | exact HB.out)))); have n1_ := Aside0.mk (below_step (by repeat (first | (with_reducible first | exact HB.out | apply below_alloc | apply pw_below_drewN | apply below_drew1) | exact HB.out)) hb); clear HB; have HO205 := n0_; have HB := n1_; clear n0_ n1_; (try clear hb); (try clear hb2); (try clear hk); (try clear hi); (try clear ho0)) | ((with_reducible refine gate_callee (f := 11) rfl ?_); refine goesL_ (some 28) rfl rfl Try.func11 (by kernel_rfl) rfl #[.slice A2 l2.length c2] rfl (by (try simp only [List.map_toArray, List.map_cons, List.map_nil]); first | done | rfl | (simp only [List.length_drop, List.length_take]; rfl)) ?_; (with_reducible refine (garlandref05_Close.calls k _ _ l2 t206 t207 _ ?side1 ?side2 A9.out).mono ?_); (case side1 => repeat (first | exact (Kd.C_below HR2.out HB.out) | (with_reducible refine Kd.C_alloc ?_ _) | (with_reducible refine Kd.C_drewN ?_ _) | (with_reducible refine Kd.C_drew ?_))); (case side2 => exact HC2.out); rintro e w29 ⟨v208, rfl, ho0, hb⟩; refine ⟨_, rfl, ?_⟩; have n0_ := Aside0.mk (Kd.R_elder' (by (with_reducible repeat (first | apply Kd.R_alloc | apply Kd.R_drewN | apply Kd.R_drew)); exact HO205.out) (Kd.R_base ho0) hb); have n1_ := Aside0.mk (Kd.R_lower (Kd.R_new' ho0 (Kd.R_lt (by (with_reducible repeat (first | apply Kd.R_alloc | apply Kd.R_drewN | apply Kd.R_drew)); exact HO205.out))) (below_size (by repeat (first | (with_reducible first | exact HB.out | apply below_alloc | apply pw_below_drewN | apply below_drew1) | exact HB.out)))); have n2_ := Aside0.mk (below_step (by repeat (first | (with_reducible first | exact HB.out | apply below_alloc | apply pw_below_drewN | apply below_drew1) | exact HB.out)) hb); clear HO205; clear HB; have HO205 := n0_; have HO209 := n1_; have HB := n2_; clear n0_ n1_ n2_; (try clear hb); (try clear hb2); (try clear hk); (try clear hi); (try clear ho0)) | ((with_reducible refine gate_callee (f := 12) rfl ?_); refine goesL_ (some 33) rfl rfl Try.func12 (by kernel_rfl) rfl #[.slice A2 l2.length c2] rfl (by (try simp only [List.map_toArray, List.map_cons, List.map_nil]); first | done | rfl | (simp only [List.length_drop, List.length_take]; rfl)) ?_; (with_reducible refine (frame_Open.calls _ _ l2 t210 t211 _ ?side1 ?side2 A10.out).mono ?_); (case side1 => repeat (first | exact (Kd.C_below HR2.out HB.out) | (with_reducible refine Kd.C_alloc ?_ _) | (with_reducible refine Kd.C_drewN ?_ _) | (with_reducible refine Kd.C_drew ?_))); (case side2 => exact HC2.out); rintro e w30 ⟨v212, rfl, ho0, hb⟩; refine ⟨_, rfl, ?_⟩; have n0_ := Aside0.mk (Kd.R_elder' (by (with_reducible repeat (first | apply Kd.R_alloc | apply Kd.R_drewN | apply Kd.R_drew)); exact HO205.out) (Kd.R_base ho0) hb); have n1_ := Aside0.mk (Kd.R_elder' (by (with_reducible repeat (first | apply Kd.R_alloc | apply Kd.R_drewN | apply Kd.R_drew)); exact HO209.out) (Kd.R_base ho0) hb); have n2_ := Aside0.mk (Kd.R_lower (Kd.R_new' (Kd.R_new' ho0 (Kd.R_lt (by (with_reducible repeat (first | apply Kd.R_alloc | apply Kd.R_drewN | apply Kd.R_drew)); exact HO205.out))) (Kd.R_lt (by (with_reducible repeat (first | apply Kd.R_alloc | apply Kd.R_drewN | apply Kd.R_drew)); exact HO209.out))) (below_size (by repeat (first | (with_reducible first | exact HB.out | apply below_alloc | apply pw_below_drewN | apply below_drew1) | exact HB.out)))); have n3_ := Aside0.mk (below_step (by repeat (first | (with_reducible first | exact HB.out | apply below_alloc | apply pw_below_drewN | apply below_drew1) | exact HB.out)) hb); clear HO205; clear HO209; clear HB; have HO205 := n0_; have HO209 := n1_; have HO213 := n2_; have HB := n3_; clear n0_ n1_ n2_ n3_; (try clear hb); (try clear hb2); (try clear hk); (try clear hi); (try clear ho0)) | ((with_reducible refine gate_callee (f := 13) rfl ?_); refine goesL_ (some 38) rfl rfl Try.func13 (by kernel_rfl) rfl #[.slice A2 l2.length c2] rfl (by (try simp only [List.map_toArray, List.map_cons, List.map_nil]); first | done | rfl | (simp only [List.length_drop, List.length_take]; rfl)) ?_; (with_reducible refine (garlandref05_Open.calls k _ _ l2 t214 t215 _ ?side1 ?side2 A11.out).mono ?_); (case side1 => repeat (first | exact (Kd.C_below HR2.out HB.out) | (with_reducible refine Kd.C_alloc ?_ _) | (with_reducible refine Kd.C_drewN ?_ _) | (with_reducible refine Kd.C_drew ?_))); (case side2 => exact HC2.out); rintro e w31 ⟨v216, rfl, ho0, hb⟩; refine ⟨_, rfl, ?_⟩; have n0_ := Aside0.mk (Kd.R_elder' (by (with_reducible repeat (first | apply Kd.R_alloc | apply Kd.R_drewN | apply Kd.R_drew)); exact HO205.out) (Kd.R_base ho0) hb); have n1_ := Aside0.mk (Kd.R_elder' (by (with_reducible repeat (first | apply Kd.R_alloc | apply Kd.R_drewN | apply Kd.R_drew)); exact HO209.out) (Kd.R_base ho0) hb); have n2_ := Aside0.mk (Kd.R_elder' (by (with_reducible repeat (first | apply Kd.R_alloc | apply Kd.R_drewN | apply Kd.R_drew)); exact HO213.out) (Kd.R_base ho0) hb); have n3_ := Aside0.mk (Kd.R_lower (Kd.R_new' (Kd.R_new' (Kd.R_new' ho0 (Kd.R_lt (by (with_reducible repeat (first | apply Kd.R_alloc | apply Kd.R_drewN | apply Kd.R_drew)); exact HO205.out))) (Kd.R_lt (by (with_reducible repeat (first | apply Kd.R_alloc | apply Kd.R_drewN | apply Kd.R_drew)); exact HO209.out))) (Kd.R_lt (by (with_reducible repeat (first | apply Kd.R_alloc | apply Kd.R_drewN | apply Kd.R_drew)); exact HO213.out))) (below_size (by repeat (first | (with_reducible first | exact HB.out | apply below_alloc | apply pw_below_drewN | apply below_drew1) | exact HB.out)))); have n4_ := Aside0.mk (below_step (by repeat (first | (with_reducible first | exact HB.out | apply below_alloc | apply pw_below_drewN | apply below_drew1) | exact HB.out)) hb); clear HO205; clear HO209; clear HO213; clear HB; have HO205 := n0_; have HO209 := n1_; have HO213 := n2_; have HO217 := n3_; have HB := n4_; clear n0_ n1_ n2_ n3_ n4_; (try clear hb); (try clear hb2); (try clear hk); (try clear hi); (try clear ho0)) | ((with_reducible refine gate_callee (f := 14) rfl ?_); refine goesL_ (some 43) rfl rfl Try.func14 (by kernel_rfl) rfl #[.int .u32 a0, .bool a1] rfl (by (try simp only [List.map_toArray, List.map_cons, List.map_nil]); first | done | rfl | (simp only [List.length_drop, List.length_take]; rfl)) ?_; (with_reducible refine (frame_Step.calls a0 a1 t218 _ A12.out).mono ?_); rintro e w' ⟨rfl, ⟨nd, rfl⟩⟩; refine ⟨_, rfl, ?_⟩) | ((with_reducible refine gate_callee (f := 15) rfl ?_); refine goesL_ (some 46) rfl rfl Try.func15 (by kernel_rfl) rfl #[.int .u32 a0, .bool a1] rfl (by (try simp only [List.map_toArray, List.map_cons, List.map_nil]); first | done | rfl | (simp only [List.length_drop, List.length_take]; rfl)) ?_; (with_reducible refine (garlandref05_Step.calls a0 a1 t219 _ A13.out).mono ?_); rintro e w' ⟨rfl, ⟨nd, rfl⟩⟩; refine ⟨_, rfl, ?_⟩) | (go_at_call 16; (with_reducible refine (frame_Sum.calls _ _ l2 t220 _ ?side1 ?side2 A15.out).mono ?_); (case side1 => repeat (first | exact (Kd.C_below HR2.out (by repeat (first | (with_reducible first | exact HB.out | apply below_alloc | apply pw_below_drewN | apply below_drew1) | exact HB.out))) | (with_reducible refine Kd.C_alloc ?_ _) | (with_reducible refine Kd.C_drewN ?_ _) | (with_reducible refine Kd.C_drew ?_))); (case side2 => exact HC2.out); rintro e w32 ⟨rfl, hb⟩; have n0_ := Aside0.mk (Kd.R_below (by (with_reducible repeat (first | apply Kd.R_alloc | apply Kd.R_drewN | apply Kd.R_drew)); exact HO205.out) hb); have n1_ := Aside0.mk (Kd.R_below (by (with_reducible repeat (first | apply Kd.R_alloc | apply Kd.R_drewN | apply Kd.R_drew)); exact HO209.out) hb); have n2_ := Aside0.mk (Kd.R_below (by (with_reducible repeat (first | apply Kd.R_alloc | apply Kd.R_drewN | apply Kd.R_drew)); exact HO213.out) hb); have n3_ := Aside0.mk (Kd.R_below (by (with_reducible repeat (first | apply Kd.R_alloc | apply Kd.R_drewN | apply Kd.R_drew)); exact HO217.out) hb); have n4_ := Aside0.mk (below_step (by repeat (first | (with_reducible first | exact HB.out | apply below_alloc | apply pw_below_drewN | apply below_drew1) | exact HB.out)) hb); clear HO205; clear HO209; clear HO213; clear HO217; clear HB; have HO205 := n0_; have HO209 := n1_; have HO213 := n2_; have HO217 := n3_; have HB := n4_; clear n0_ n1_ n2_ n3_ n4_; (try clear hb); (try clear hb2); (try clear hk); (try clear hi)) | (go_at_call 17; (with_reducible refine (garlandref05_Sum.calls k _ _ l2 t221 _ ?side1 ?side2 A16.out).mono ?_); (case side1 => repeat (first | exact (Kd.C_below HR2.out HB.out) | (with_reducible refine Kd.C_alloc ?_ _) | (with_reducible refine Kd.C_drewN ?_ _) | (with_reducible refine Kd.C_drew ?_))); (case side2 => exact HC2.out); rintro e w' ⟨rfl, ⟨nd, rfl⟩⟩; obtain ⟨Ao33, co33, eo33⟩ := Kd.R_slice HO205.out; subst eo33; obtain ⟨Ao34, co34, eo34⟩ := Kd.R_slice HO209.out; subst eo34) | (go_at_call 18; (with_reducible refine (garlandlaw05_same.calls _ _ t202 _ _ t206 true _ ?side1 ?side2 ?side3 ?side4 A18.out).mono ?_); (case side1 => repeat (first | exact (Kd.R_reads' HO205.out).2.2 | (with_reducible refine Kd.C_alloc ?_ _) | (with_reducible refine Kd.C_drewN ?_ _) | (with_reducible refine Kd.C_drew ?_))); (case side2 => exact (Kd.R_reads' HO205.out).2.1); (case side3 => repeat (first | exact (Kd.R_reads' HO209.out).2.2 | (with_reducible refine Kd.C_alloc ?_ _) | (with_reducible refine Kd.C_drewN ?_ _) | (with_reducible refine Kd.C_drew ?_))); (case side4 => exact (Kd.R_reads' HO209.out).2.1); rintro e w' ⟨rfl, ⟨nd, rfl⟩⟩; obtain ⟨Ao35, co35, eo35⟩ := Kd.R_slice HO213.out; subst eo35; obtain ⟨Ao36, co36, eo36⟩ := Kd.R_slice HO217.out; subst eo36) | (go_at_call 18; (with_reducible refine (garlandlaw05_same.calls _ _ t210 _ _ t214 true _ ?side1 ?side2 ?side3 ?side4 A21.out).mono ?_); (case side1 => repeat (first | exact (Kd.R_reads' HO213.out).2.2 | (with_reducible refine Kd.C_alloc ?_ _) | (with_reducible refine Kd.C_drewN ?_ _) | (with_reducible refine Kd.C_drew ?_))); (case side2 => exact (Kd.R_reads' HO213.out).2.1); (case side3 => repeat (first | exact (Kd.R_reads' HO217.out).2.2 | (with_reducible refine Kd.C_alloc ?_ _) | (with_reducible refine Kd.C_drewN ?_ _) | (with_reducible refine Kd.C_drew ?_))); (case side4 => exact (Kd.R_reads' HO217.out).2.1); rintro e w' ⟨rfl, ⟨nd, rfl⟩⟩) | (go_at_call 19; (with_reducible refine (frame_Size.calls a3 t224 _ A24.out).mono ?_); rintro e w' ⟨rfl, ⟨nd, rfl⟩⟩) | (go_at_call 20; (with_reducible refine (garlandref05_Size.calls a3 t225 _ A25.out).mono ?_); rintro e w' ⟨rfl, ⟨nd, rfl⟩⟩) | (go_at_call 9; (with_reducible refine (garlandlaw05_wakes.calls  t226 _ A27.out).mono ?_); rintro e w37 ⟨rfl, hb⟩; have n0_ := Aside0.mk (Kd.R_below (by (with_reducible repeat (first | apply Kd.R_alloc | apply Kd.R_drewN | apply Kd.R_drew)); exact HO205.out) hb); have n1_ := Aside0.mk (Kd.R_below (by (with_reducible repeat (first | apply Kd.R_alloc | apply Kd.R_drewN | apply Kd.R_drew)); exact HO209.out) hb); have n2_ := Aside0.mk (Kd.R_below (by (with_reducible repeat (first | apply Kd.R_alloc | apply Kd.R_drewN | apply Kd.R_drew)); exact HO213.out) hb); have n3_ := Aside0.mk (Kd.R_below (by (with_reducible repeat (first | apply Kd.R_alloc | apply Kd.R_drewN | apply Kd.R_drew)); exact HO217.out) hb); have n4_ := Aside0.mk (below_step (by repeat (first | (with_reducible first | exact HB.out | apply below_alloc | apply pw_below_drewN | apply below_drew1) | exact HB.out)) hb); clear HO205; clear HO209; clear HO213; clear HO217; clear HB; have HO205 := n0_; have HO209 := n1_; have HO213 := n2_; have HO217 := n3_; have HB := n4_; clear n0_ n1_ n2_ n3_ n4_; (try clear hb); (try clear hb2); (try clear hk); (try clear hi)))
                  go_ret
                  exact ⟨by first | rfl | (simp [errW_none, errW_some] <;> rfl) | (simp [*, errW_none, errW_some] <;> rfl), by repeat (first | (with_reducible first | exact HB.out | apply below_alloc | apply pw_below_drewN | apply below_drew1) | exact HB.out)⟩
                · rw [if_neg c26] at H
                  exact absurd H (by simp)
              · rw [if_neg c23] at H
                exact absurd H (by simp)
            · replace c22 := Bool.eq_false_iff.mpr c22
              subst c22
              have H1 : (none) = some r := by rw [if_neg (show ¬ (false = true) by decide)] at H; exact H
              clear H
              have H := H1
              clear H1
              exact absurd H (by simp)
          · rw [if_neg c20] at H
            exact absurd H (by simp)
        · replace c19 := Bool.eq_false_iff.mpr c19
          subst c19
          have H1 : (none) = some r := by rw [if_neg (show ¬ (false = true) by decide)] at H; exact H
          clear H
          have H := H1
          clear H1
          exact absurd H (by simp)
      · rw [if_neg c17] at H
        exact absurd H (by simp)
    · rw [if_neg c14] at H
      exact absurd H (by simp)

/-- THE ONE PURE STATEMENT of garlandlaw05_FrameTells: yours. -/
def garlandlaw05_FrameTells.Pure : Prop := ∀ (a0 : Int) (a1 : Bool) (l2 : List Int) (a3 : Int), (Lit.int .u32 a0).wf = true → l2.length ≤ maxLen → l2.length * 1 ≤ 140737488351232 → (∀ x ∈ l2, (Lit.int .u8 x).wf = true) → (Lit.int .i64 a3).wf = true → ∃ k, garlandlaw05_FrameTells.f k a0 a1 l2 a3 = some true
theorem garlandlaw05_FrameTells.walk (P : garlandlaw05_FrameTells.Pure) (a0 : Int) (a1 : Bool) (a2 : Option Addr) (len2 cap2 : Nat) (z2 : List Int) (a3 : Int) (w : World) (w0 : (Lit.int .u32 a0).wf = true) (w2 : (a2 = none ∧ len2 = 0 ∧ cap2 = 0 ∧ z2 = []) ∨ ∃ x, a2 = some x ∧ len2 ≤ cap2 ∧ cap2 ≤ maxLen ∧ z2.length = cap2 ∧ (∀ i, i < z2.length → w.cell? (x.add i) = some (.int .u8 (z2.getD i 0))) ∧ ∀ n ∈ z2, (Lit.int .u8 n).wf = true) (y2 : len2 * 1 ≤ 140737488351232) (w3 : (Lit.int .i64 a3).wf = true) :
    Calls Try.prog 3 #[.int .u32 a0, .bool a1, .slice a2 len2 cap2, .int .i64 a3] w fun e w' => e = .returned (.bool true) ∧ Below w.heap.size w w' := by
  obtain ⟨l2, rfl, hr2, hm2, hw2, hc2⟩ := ReadsInt.ofRowC w2
  obtain ⟨k, h⟩ := P a0 a1 l2 a3 w0 hm2 y2 hw2 w3
  refine (garlandlaw05_FrameTells.calls k a0 a1 _ _ l2 a3 true w (Kd.C_of_reads (d := (0 : Int)) (h1 := fun _ => rfl) hr2) hc2 h).mono ?_
  rintro e w' ⟨rfl, hd⟩
  exact ⟨rfl, hd⟩

/-! ### garlandlaw05_FrameBurst: function 4 -/
mutual
def garlandlaw05_FrameBurst.j0 : Nat → Int → Int → List Int → Bool → Option (Bool)
  | 0, _, _, _, _ => none
  | k + 1, x1, x2, x7, x62 => if x62 = true then (none) else (if (wrap64 ((wrap64 (8 * (x7.length : Int))) - 31)) = 0 then (none) else ((some (([] : List Int) : List Int)).bind fun y237 => (if y237.length + x7.length < 140737488355328 then (garlandlaw05_FrameBurst.l0 k (Int.tmod (wrap64 ((Int.tmod x1 (wrap64 ((wrap64 (8 * (x7.length : Int))) - 31))) + (wrap64 ((wrap64 (8 * (x7.length : Int))) - 31)))) (wrap64 ((wrap64 (8 * (x7.length : Int))) - 31))) x2 x7 (y237 ++ x7) 0) else (none))))
def garlandlaw05_FrameBurst.l0 : Nat → Int → Int → List Int → List Int → Int → Option (Bool)
  | 0, _, _, _, _, _ => none
  | k + 1, x1, x2, x7, x12, x13 => if x13 < 32 then (if 0 ≤ (IntKind.u64.wrap (x13)) then (if (Go.bits .and .u32 (shr .u32 x2 (IntKind.u64.wrap (x13))) 1) = 1 then (if 0 ≤ (wrap64 (Int.tdiv (wrap64 (x1 + x13)) 8)) then (if (wrap64 (Int.tdiv (wrap64 (x1 + x13)) 8)) < (x12.length : Int) then (if 0 ≤ (IntKind.u64.wrap (Int.tmod (wrap64 (x1 + x13)) 8)) then (garlandlaw05_FrameBurst.l0 k x1 x2 x7 (x12.set ((wrap64 (Int.tdiv (wrap64 (x1 + x13)) 8)) : Int).toNat (Go.bits .xor .u8 (rd x12 (wrap64 (Int.tdiv (wrap64 (x1 + x13)) 8))) (shr .u8 128 (IntKind.u64.wrap (Int.tmod (wrap64 (x1 + x13)) 8))))) (wrap64 (x13 + 1))) else (none)) else (none)) else (none)) else (garlandlaw05_FrameBurst.l0 k x1 x2 x7 x12 (wrap64 (x13 + 1)))) else (none)) else ((frame_Open.f x12).bind fun bt245 => ((some (([] : List Int) : List Int)).bind fun y249 => (if y249.length + x7.length < 140737488355328 then ((some (y249 ++ x7 : List Int)).bind fun y252 => (if y252.length < 140737488355328 then ((frame_Open.f (y252 ++ [(x2) % 256])).bind fun bt258 => (if 0 ≤ (wrap64 ((x7.length : Int) - 1)) then (if (wrap64 ((x7.length : Int) - 1)) ≤ (x7.length : Int) then ((frame_Open.f (x7.take ((wrap64 ((x7.length : Int) - 1)) : Int).toNat)).bind fun bt266 => (if ((bt245.2 == 0) == (x2 == 0)) = true then (if bt258.2 = 12 then (if bt266.2 = 12 then ((garlandlaw05_wakes.f).bind fun t270 => (some t270)) else (if (x7.length : Int) = 8 then (if bt266.2 = 11 then ((garlandlaw05_wakes.f).bind fun t271 => (some t271)) else (none)) else (none))) else (none)) else (none))) else (none)) else (none))) else (none))) else (none))))
end
def garlandlaw05_FrameBurst.f (k : Nat) (l0 : List Int) (a1 : Int) (a2 : Int) : Option (Bool) := (frame_Close.f l0).bind fun bt227 => (if (l0.length : Int) > 112 then (if bt227.2 = 2 then (if (bt227.1.length : Int) = 0 then ((garlandlaw05_wakes.f).bind fun t231 => (some t231)) else (none)) else (none)) else ((frame_Open.f bt227.1).bind fun bt232 => (if bt227.2 = 0 then (if bt232.2 = 0 then ((garlandlaw05_same.f bt232.1 l0).bind fun t236 => (if t236 = true then (garlandlaw05_FrameBurst.j0 k a1 a2 bt227.1 ((bt227.1.length : Int) != (wrap64 ((l0.length : Int) + 8)))) else (garlandlaw05_FrameBurst.j0 k a1 a2 bt227.1 true))) else (garlandlaw05_FrameBurst.j0 k a1 a2 bt227.1 true)) else (garlandlaw05_FrameBurst.j0 k a1 a2 bt227.1 true))))
theorem garlandlaw05_FrameBurst.mono_l : ∀ k, (∀ y0 y1 y2 y3, LeO (garlandlaw05_FrameBurst.j0 k y0 y1 y2 y3) (garlandlaw05_FrameBurst.j0 (k + 1) y0 y1 y2 y3)) ∧ (∀ y0 y1 y2 y3 y4, LeO (garlandlaw05_FrameBurst.l0 k y0 y1 y2 y3 y4) (garlandlaw05_FrameBurst.l0 (k + 1) y0 y1 y2 y3 y4))
  | 0 => ⟨fun _ _ _ _ r h => by simp [garlandlaw05_FrameBurst.j0] at h, fun _ _ _ _ _ r h => by simp [garlandlaw05_FrameBurst.l0] at h⟩
  | k + 1 => by
    obtain ⟨ih0, ih1⟩ := garlandlaw05_FrameBurst.mono_l k
    refine ⟨?_, ?_⟩
    · intro y0 y1 y2 y3
      unfold garlandlaw05_FrameBurst.j0
      repeat' first
      | (with_reducible exact ih0 _ _ _ _)
      | (with_reducible exact ih1 _ _ _ _ _)
      | (with_reducible exact LeO.refl _)
      | (with_reducible exact LeO.none _)
      | (with_reducible refine LeO.ite ?_ ?_)
      | (with_reducible refine LeO.bind ?_ (fun _ => ?_))
      | exact ih0 _ _ _ _
      | exact ih1 _ _ _ _ _
      | exact LeO.none _
      | refine LeO.ite ?_ ?_
      | refine LeO.bind ?_ (fun _ => ?_)
    · intro y0 y1 y2 y3 y4
      unfold garlandlaw05_FrameBurst.l0
      repeat' first
      | (with_reducible exact ih0 _ _ _ _)
      | (with_reducible exact ih1 _ _ _ _ _)
      | (with_reducible exact LeO.refl _)
      | (with_reducible exact LeO.none _)
      | (with_reducible refine LeO.ite ?_ ?_)
      | (with_reducible refine LeO.bind ?_ (fun _ => ?_))
      | exact ih0 _ _ _ _
      | exact ih1 _ _ _ _ _
      | exact LeO.none _
      | refine LeO.ite ?_ ?_
      | refine LeO.bind ?_ (fun _ => ?_)
theorem garlandlaw05_FrameBurst.mono : ∀ a0 a1 a2 k, LeO (garlandlaw05_FrameBurst.f k a0 a1 a2) (garlandlaw05_FrameBurst.f (k + 1) a0 a1 a2) := by
  intro a0 a1 a2 k
  obtain ⟨ih0, ih1⟩ := garlandlaw05_FrameBurst.mono_l k
  unfold garlandlaw05_FrameBurst.f
  repeat' first
      | (with_reducible exact ih0 _ _ _ _)
      | (with_reducible exact ih1 _ _ _ _ _)
      | (with_reducible exact LeO.refl _)
      | (with_reducible exact LeO.none _)
      | (with_reducible refine LeO.ite ?_ ?_)
      | (with_reducible refine LeO.bind ?_ (fun _ => ?_))
      | exact ih0 _ _ _ _
      | exact ih1 _ _ _ _ _
      | exact LeO.none _
      | refine LeO.ite ?_ ?_
      | refine LeO.bind ?_ (fun _ => ?_)
set_option maxHeartbeats 8000000 in
set_option maxRecDepth 100000 in
theorem garlandlaw05_FrameBurst.calls (k : Nat) (A0 : Option Addr) (c0 : Nat) (l0 : List Int) (a1 : Int) (a2 : Int) (r : Bool) (w : World) (hr0 : Kd.C (Kd.int .u8) w A0 l0.length l0) (hc0 : l0.length ≤ c0) (h : garlandlaw05_FrameBurst.f k l0 a1 a2 = some r) :
    Calls Try.prog 4 #[.slice A0 l0.length c0, .int .i64 a1, .int .u32 a2] w fun e w' => e = .returned (.bool r) ∧ Below w.heap.size w w' := by
  have HR0 := Aside0.mk hr0
  have HC0 := Aside0.mk hc0
  clear hr0 hc0
  have HB := Aside0.mk (Below.refl w.heap.size w)
  have H : ((frame_Close.f l0).bind fun bt227 => (if (l0.length : Int) > 112 then (if bt227.2 = 2 then (if (bt227.1.length : Int) = 0 then ((garlandlaw05_wakes.f).bind fun t231 => (some t231)) else (none)) else (none)) else ((frame_Open.f bt227.1).bind fun bt232 => (if bt227.2 = 0 then (if bt232.2 = 0 then ((garlandlaw05_same.f bt232.1 l0).bind fun t236 => (if t236 = true then (garlandlaw05_FrameBurst.j0 k a1 a2 bt227.1 ((bt227.1.length : Int) != (wrap64 ((l0.length : Int) + 8)))) else (garlandlaw05_FrameBurst.j0 k a1 a2 bt227.1 true))) else (garlandlaw05_FrameBurst.j0 k a1 a2 bt227.1 true)) else (garlandlaw05_FrameBurst.j0 k a1 a2 bt227.1 true))))) = some r := h
  clear h
  replace H := Option.bind_eq_some_iff.mp H
  obtain ⟨⟨t227, t228⟩, A40, H⟩ := H
  replace H : (if (l0.length : Int) > 112 then (if t228 = 2 then (if (t227.length : Int) = 0 then ((garlandlaw05_wakes.f).bind fun t231 => (some t231)) else (none)) else (none)) else ((frame_Open.f t227).bind fun bt232 => (if t228 = 0 then (if bt232.2 = 0 then ((garlandlaw05_same.f bt232.1 l0).bind fun t236 => (if t236 = true then (garlandlaw05_FrameBurst.j0 k a1 a2 t227 ((t227.length : Int) != (wrap64 ((l0.length : Int) + 8)))) else (garlandlaw05_FrameBurst.j0 k a1 a2 t227 true))) else (garlandlaw05_FrameBurst.j0 k a1 a2 t227 true)) else (garlandlaw05_FrameBurst.j0 k a1 a2 t227 true)))) = some r := H
  have A4 := Aside0.mk A40
  clear A40
  by_cases c5 : (l0.length : Int) > 112
  · rw [if_pos c5] at H
    have c5b0 : decide (112 < (l0.length : Int)) = true := decide_eq_true c5
    have c5b1 : decide (112 < l0.length) = true := decide_eq_true (by omega)
    clear c5
    by_cases c6 : t228 = 2
    · rw [if_pos c6] at H
      have c6b0 : (t228 == 2) = true := beq_iff_eq.mpr c6
      have c6b1 : (t228 != 2) = false := bne_eq_false_iff_eq.mpr c6
      clear c6
      by_cases c7 : (t227.length : Int) = 0
      · rw [if_pos c7] at H
        have c7b0 : ((t227.length : Int) == 0) = true := beq_iff_eq.mpr c7
        have c7b1 : ((t227.length : Int) != 0) = false := bne_eq_false_iff_eq.mpr c7
        clear c7
        replace H := Option.bind_eq_some_iff.mp H
        obtain ⟨t231, A80, H⟩ := H
        replace H : (some t231) = some r := H
        have A8 := Aside0.mk A80
        clear A80
        obtain rfl := Option.some.inj H
        go_enter Try.func4, Try.ntmps4
        go_wp2_with (first | ((with_reducible refine gate_callee (f := 10) rfl ?_); refine goesL_ (some 22) rfl rfl Try.func10 (by kernel_rfl) rfl #[.slice A0 l0.length c0] rfl (by (try simp only [List.map_toArray, List.map_cons, List.map_nil]); first | done | rfl | (simp only [List.length_drop, List.length_take]; rfl)) ?_; (with_reducible refine (frame_Close.calls _ _ l0 t227 t228 _ ?side1 ?side2 A4.out).mono ?_); (case side1 => repeat (first | exact HR0.out | (with_reducible refine Kd.C_alloc ?_ _) | (with_reducible refine Kd.C_drewN ?_ _) | (with_reducible refine Kd.C_drew ?_))); (case side2 => exact HC0.out); rintro e w9 ⟨v229, rfl, ho0, hb⟩; refine ⟨_, rfl, ?_⟩; have n0_ := Aside0.mk (Kd.R_lower ho0 (below_size (by repeat (first | (with_reducible first | exact HB.out | apply below_alloc | apply pw_below_drewN | apply below_drew1) | exact HB.out)))); have n1_ := Aside0.mk (below_step (by repeat (first | (with_reducible first | exact HB.out | apply below_alloc | apply pw_below_drewN | apply below_drew1) | exact HB.out)) hb); clear HB; have HO230 := n0_; have HB := n1_; clear n0_ n1_; (try clear hb); (try clear hb2); (try clear hk); (try clear hi); (try clear ho0); obtain ⟨Ao10, co10, eo10⟩ := Kd.R_slice HO230.out; subst eo10) | (go_at_call 9; (with_reducible refine (garlandlaw05_wakes.calls  t231 _ A8.out).mono ?_); rintro e w11 ⟨rfl, hb⟩; have n0_ := Aside0.mk (Kd.R_below (by (with_reducible repeat (first | apply Kd.R_alloc | apply Kd.R_drewN | apply Kd.R_drew)); exact HO230.out) hb); have n1_ := Aside0.mk (below_step (by repeat (first | (with_reducible first | exact HB.out | apply below_alloc | apply pw_below_drewN | apply below_drew1) | exact HB.out)) hb); clear HO230; clear HB; have HO230 := n0_; have HB := n1_; clear n0_ n1_; (try clear hb); (try clear hb2); (try clear hk); (try clear hi)))
        go_ret
        exact ⟨by first | rfl | (simp [errW_none, errW_some] <;> rfl) | (simp [*, errW_none, errW_some] <;> rfl), by repeat (first | (with_reducible first | exact HB.out | apply below_alloc | apply pw_below_drewN | apply below_drew1) | exact HB.out)⟩
      · rw [if_neg c7] at H
        exact absurd H (by simp)
    · rw [if_neg c6] at H
      exact absurd H (by simp)
  · rw [if_neg c5] at H
    have c5b0 : decide (112 < (l0.length : Int)) = false := decide_eq_false c5
    have c5b1 : decide (112 < l0.length) = false := decide_eq_false (by omega)
    clear c5
    replace H := Option.bind_eq_some_iff.mp H
    obtain ⟨⟨t232, t233⟩, A120, H⟩ := H
    replace H : (if t228 = 0 then (if t233 = 0 then ((garlandlaw05_same.f t232 l0).bind fun t236 => (if t236 = true then (garlandlaw05_FrameBurst.j0 k a1 a2 t227 ((t227.length : Int) != (wrap64 ((l0.length : Int) + 8)))) else (garlandlaw05_FrameBurst.j0 k a1 a2 t227 true))) else (garlandlaw05_FrameBurst.j0 k a1 a2 t227 true)) else (garlandlaw05_FrameBurst.j0 k a1 a2 t227 true)) = some r := H
    have A12 := Aside0.mk A120
    clear A120
    have HC13 := Aside0.mk H
    clear H
    go_enter Try.func4, Try.ntmps4
    go_upto_region 5 with (first | ((with_reducible refine gate_callee (f := 10) rfl ?_); refine goesL_ (some 22) rfl rfl Try.func10 (by kernel_rfl) rfl #[.slice A0 l0.length c0] rfl (by (try simp only [List.map_toArray, List.map_cons, List.map_nil]); first | done | rfl | (simp only [List.length_drop, List.length_take]; rfl)) ?_; (with_reducible refine (frame_Close.calls _ _ l0 t227 t228 _ ?side1 ?side2 A4.out).mono ?_); (case side1 => repeat (first | exact HR0.out | (with_reducible refine Kd.C_alloc ?_ _) | (with_reducible refine Kd.C_drewN ?_ _) | (with_reducible refine Kd.C_drew ?_))); (case side2 => exact HC0.out); rintro e w14 ⟨v229, rfl, ho0, hb⟩; refine ⟨_, rfl, ?_⟩; have n0_ := Aside0.mk (Kd.R_lower ho0 (below_size (by repeat (first | (with_reducible first | exact HB.out | apply below_alloc | apply pw_below_drewN | apply below_drew1) | exact HB.out)))); have n1_ := Aside0.mk (below_step (by repeat (first | (with_reducible first | exact HB.out | apply below_alloc | apply pw_below_drewN | apply below_drew1) | exact HB.out)) hb); clear HB; have HO230 := n0_; have HB := n1_; clear n0_ n1_; (try clear hb); (try clear hb2); (try clear hk); (try clear hi); (try clear ho0); obtain ⟨Ao15, co15, eo15⟩ := Kd.R_slice HO230.out; subst eo15) | ((with_reducible refine gate_callee (f := 12) rfl ?_); refine goesL_ (some 40) rfl rfl Try.func12 (by kernel_rfl) rfl #[.slice Ao15 t227.length co15] rfl (by (try simp only [List.map_toArray, List.map_cons, List.map_nil]); first | done | rfl | (simp only [List.length_drop, List.length_take]; rfl)) ?_; (with_reducible refine (frame_Open.calls _ _ t227 t232 t233 _ ?side1 ?side2 A12.out).mono ?_); (case side1 => repeat (first | exact (Kd.R_reads' HO230.out).2.2 | (with_reducible refine Kd.C_alloc ?_ _) | (with_reducible refine Kd.C_drewN ?_ _) | (with_reducible refine Kd.C_drew ?_))); (case side2 => exact (Kd.R_reads' HO230.out).2.1); rintro e w16 ⟨v234, rfl, ho0, hb⟩; refine ⟨_, rfl, ?_⟩; have n0_ := Aside0.mk (Kd.R_elder' (by (with_reducible repeat (first | apply Kd.R_alloc | apply Kd.R_drewN | apply Kd.R_drew)); exact HO230.out) (Kd.R_base ho0) hb); have n1_ := Aside0.mk (Kd.R_lower (Kd.R_new' ho0 (Kd.R_lt (by (with_reducible repeat (first | apply Kd.R_alloc | apply Kd.R_drewN | apply Kd.R_drew)); exact HO230.out))) (below_size (by repeat (first | (with_reducible first | exact HB.out | apply below_alloc | apply pw_below_drewN | apply below_drew1) | exact HB.out)))); have n2_ := Aside0.mk (below_step (by repeat (first | (with_reducible first | exact HB.out | apply below_alloc | apply pw_below_drewN | apply below_drew1) | exact HB.out)) hb); clear HO230; clear HB; have HO230 := n0_; have HO235 := n1_; have HB := n2_; clear n0_ n1_ n2_; (try clear hb); (try clear hb2); (try clear hk); (try clear hi); (try clear ho0)))
    (try simp only [Act.put, List.setIfInBounds_toArray, List.set_cons_zero, List.set_cons_succ])
    go_cut [62] (fun v62 wc => ∃ (kq : Nat) (x62_12 : Bool), v62 = .bool x62_12 ∧ Aside0 (garlandlaw05_FrameBurst.j0 kq a1 a2 t227 x62_12 = some r) ∧ Aside0 (kq ≤ k) ∧ Aside0 (Kd.R (Kd.int .u8) 5 wc w.heap.size (fun _ => True) (.slice Ao15 t227.length co15) t227) ∧ Aside0 (Below w.heap.size w wc))
    case first =>
      have H := HC13.out
      clear HC13
      by_cases c17 : t228 = 0
      · rw [if_pos c17] at H
        have c17b0 : (t228 == 0) = true := beq_iff_eq.mpr c17
        have c17b1 : (t228 != 0) = false := bne_eq_false_iff_eq.mpr c17
        clear c17
        (first | rw [c17b0] | (simp only [i64_w, i32_w]; rw [c17b0]) | skip)
        by_cases c18 : t233 = 0
        · rw [if_pos c18] at H
          have c18b0 : (t233 == 0) = true := beq_iff_eq.mpr c18
          have c18b1 : (t233 != 0) = false := bne_eq_false_iff_eq.mpr c18
          clear c18
          replace H := Option.bind_eq_some_iff.mp H
          obtain ⟨t236, A190, H⟩ := H
          replace H : (if t236 = true then (garlandlaw05_FrameBurst.j0 k a1 a2 t227 ((t227.length : Int) != (wrap64 ((l0.length : Int) + 8)))) else (garlandlaw05_FrameBurst.j0 k a1 a2 t227 true)) = some r := H
          have A19 := Aside0.mk A190
          clear A190
          by_cases c20 : t236 = true
          · subst c20
            have H1 : (garlandlaw05_FrameBurst.j0 k a1 a2 t227 ((t227.length : Int) != (wrap64 ((l0.length : Int) + 8)))) = some r := by rw [if_pos rfl] at H; exact H
            clear H
            have H := H1
            clear H1
            have H' := Aside0.mk H
            clear H
            obtain ⟨Ao21, co21, eo21⟩ := Kd.R_slice HO235.out
            subst eo21
            go_wp2_with (first | (go_at_call 18; (with_reducible refine (garlandlaw05_same.calls _ _ t232 _ _ l0 true _ ?side1 ?side2 ?side3 ?side4 A19.out).mono ?_); (case side1 => repeat (first | exact (Kd.R_reads' HO235.out).2.2 | (with_reducible refine Kd.C_alloc ?_ _) | (with_reducible refine Kd.C_drewN ?_ _) | (with_reducible refine Kd.C_drew ?_))); (case side2 => exact (Kd.R_reads' HO235.out).2.1); (case side3 => repeat (first | exact (Kd.C_below HR0.out HB.out) | (with_reducible refine Kd.C_alloc ?_ _) | (with_reducible refine Kd.C_drewN ?_ _) | (with_reducible refine Kd.C_drew ?_))); (case side4 => exact HC0.out); rintro e w' ⟨rfl, ⟨nd, rfl⟩⟩))
            go_meet
            case rel => exact ⟨_, (((t227.length : Int) != (wrap64 ((l0.length : Int) + 8)))), (by first | rfl | (simp; done) | (simp [*]; done)), H', ⟨by first | omega | exact Nat.le_refl _⟩, ⟨by (with_reducible repeat (first | apply Kd.R_alloc | apply Kd.R_drewN | apply Kd.R_drew)); exact Kd.R_mono HO230.out (fun _ hk => trivial)⟩, ⟨by repeat (first | (with_reducible first | exact HB.out | apply below_alloc | apply pw_below_drewN | apply below_drew1) | exact HB.out)⟩⟩
          · replace c20 := Bool.eq_false_iff.mpr c20
            subst c20
            have H1 : (garlandlaw05_FrameBurst.j0 k a1 a2 t227 true) = some r := by rw [if_neg (show ¬ (false = true) by decide)] at H; exact H
            clear H
            have H := H1
            clear H1
            have H' := Aside0.mk H
            clear H
            obtain ⟨Ao22, co22, eo22⟩ := Kd.R_slice HO235.out
            subst eo22
            go_wp2_with (first | (go_at_call 18; (with_reducible refine (garlandlaw05_same.calls _ _ t232 _ _ l0 false _ ?side1 ?side2 ?side3 ?side4 A19.out).mono ?_); (case side1 => repeat (first | exact (Kd.R_reads' HO235.out).2.2 | (with_reducible refine Kd.C_alloc ?_ _) | (with_reducible refine Kd.C_drewN ?_ _) | (with_reducible refine Kd.C_drew ?_))); (case side2 => exact (Kd.R_reads' HO235.out).2.1); (case side3 => repeat (first | exact (Kd.C_below HR0.out HB.out) | (with_reducible refine Kd.C_alloc ?_ _) | (with_reducible refine Kd.C_drewN ?_ _) | (with_reducible refine Kd.C_drew ?_))); (case side4 => exact HC0.out); rintro e w' ⟨rfl, ⟨nd, rfl⟩⟩))
            go_meet
            case rel => exact ⟨_, (true), (by first | rfl | (simp; done) | (simp [*]; done)), H', ⟨by first | omega | exact Nat.le_refl _⟩, ⟨by (with_reducible repeat (first | apply Kd.R_alloc | apply Kd.R_drewN | apply Kd.R_drew)); exact Kd.R_mono HO230.out (fun _ hk => trivial)⟩, ⟨by repeat (first | (with_reducible first | exact HB.out | apply below_alloc | apply pw_below_drewN | apply below_drew1) | exact HB.out)⟩⟩
        · rw [if_neg c18] at H
          have c18b0 : (t233 == 0) = false := beq_eq_false_iff_ne.mpr c18
          have c18b1 : (t233 != 0) = true := bne_iff_ne.mpr c18
          have H' := Aside0.mk H
          clear H
          go_wp2
          go_meet
          case rel => exact ⟨_, (true), (by first | rfl | (simp; done) | (simp [*]; done)), H', ⟨by first | omega | exact Nat.le_refl _⟩, ⟨by (with_reducible repeat (first | apply Kd.R_alloc | apply Kd.R_drewN | apply Kd.R_drew)); exact Kd.R_mono HO230.out (fun _ hk => trivial)⟩, ⟨by repeat (first | (with_reducible first | exact HB.out | apply below_alloc | apply pw_below_drewN | apply below_drew1) | exact HB.out)⟩⟩
      · rw [if_neg c17] at H
        have c17b0 : (t228 == 0) = false := beq_eq_false_iff_ne.mpr c17
        have c17b1 : (t228 != 0) = true := bne_iff_ne.mpr c17
        (first | rw [c17b0] | (simp only [i64_w, i32_w]; rw [c17b0]) | skip)
        have H' := Aside0.mk H
        clear H
        go_wp2
        go_meet
        case rel => exact ⟨_, (true), (by first | rfl | (simp; done) | (simp [*]; done)), H', ⟨by first | omega | exact Nat.le_refl _⟩, ⟨by (with_reducible repeat (first | apply Kd.R_alloc | apply Kd.R_drewN | apply Kd.R_drew)); exact Kd.R_mono HO230.out (fun _ hk => trivial)⟩, ⟨by repeat (first | (with_reducible first | exact HB.out | apply below_alloc | apply pw_below_drewN | apply below_drew1) | exact HB.out)⟩⟩
    case rest =>
      clear HC13
      try clear c1
      try clear c2
      try clear p2
      try clear c4
      try clear c5
      try clear c5b0
      try clear c5b1
      try clear c6
      try clear c6b0
      try clear c6b1
      try clear p6
      try clear c7
      try clear c7b0
      try clear c7b1
      try clear c10
      try clear c12
      try clear c17
      try clear c17b0
      try clear c17b1
      try clear c18
      try clear c18b0
      try clear c18b1
      try clear c20
      obtain ⟨kq, x62_12, rfl, HA, HJ12, HO_7, HB⟩ := hcut
      cases kq with
      | zero => exact absurd HA.out (by simp [garlandlaw05_FrameBurst.j0])
      | succ kj12 =>
        have H := HA.out
        clear HA
        simp only [garlandlaw05_FrameBurst.j0] at H
        by_cases c23 : x62_12 = true
        · subst c23
          have H1 : (none) = some r := by rw [if_pos rfl] at H; exact H
          clear H
          have H := H1
          clear H1
          exact absurd H (by simp)
        · replace c23 := Bool.eq_false_iff.mpr c23
          subst c23
          have H1 : (if (wrap64 ((wrap64 (8 * (t227.length : Int))) - 31)) = 0 then (none) else ((some (([] : List Int) : List Int)).bind fun y237 => (if y237.length + t227.length < 140737488355328 then (garlandlaw05_FrameBurst.l0 kj12 (Int.tmod (wrap64 ((Int.tmod a1 (wrap64 ((wrap64 (8 * (t227.length : Int))) - 31))) + (wrap64 ((wrap64 (8 * (t227.length : Int))) - 31)))) (wrap64 ((wrap64 (8 * (t227.length : Int))) - 31))) a2 t227 (y237 ++ t227) 0) else (none)))) = some r := by rw [if_neg (show ¬ (false = true) by decide)] at H; exact H
          clear H
          have H := H1
          clear H1
          by_cases c24 : (wrap64 ((wrap64 (8 * (t227.length : Int))) - 31)) = 0
          · rw [if_pos c24] at H
            exact absurd H (by simp)
          · rw [if_neg c24] at H
            have c24b0 : ((wrap64 ((wrap64 (8 * (t227.length : Int))) - 31)) == 0) = false := beq_eq_false_iff_ne.mpr c24
            have c24b1 : ((wrap64 ((wrap64 (8 * (t227.length : Int))) - 31)) != 0) = true := bne_iff_ne.mpr c24
            obtain ⟨y237, hy237⟩ : ∃ y_ : List Int, y_ = (([] : List Int)) := ⟨_, rfl⟩
            replace H : (if y237.length + t227.length < 140737488355328 then (garlandlaw05_FrameBurst.l0 kj12 (Int.tmod (wrap64 ((Int.tmod a1 (wrap64 ((wrap64 (8 * (t227.length : Int))) - 31))) + (wrap64 ((wrap64 (8 * (t227.length : Int))) - 31)))) (wrap64 ((wrap64 (8 * (t227.length : Int))) - 31))) a2 t227 (y237 ++ t227) 0) else (none)) = some r := by first | (rw [hy237]; with_reducible exact H) | (have H2_ := (Option.bind_some _ _).symm.trans H; rw [hy237]; with_reducible exact H2_) | (have H2_ := (Option.bind_some _ _).symm.trans H; with_reducible exact H2_) | with_reducible exact H | (rw [hy237]; exact H) | exact H
            have Ny237 := Aside0.mk hy237
            clear hy237
            by_cases c25 : y237.length + t227.length < 140737488355328
            · rw [if_pos c25] at H
              have LMc25 := Aside0.mk c25
              clear c25
              obtain ⟨y240, hy240⟩ : ∃ y_ : List Int, y_ = (y237 ++ t227) := ⟨_, rfl⟩
              replace H : (garlandlaw05_FrameBurst.l0 kj12 (Int.tmod (wrap64 ((Int.tmod a1 (wrap64 ((wrap64 (8 * (t227.length : Int))) - 31))) + (wrap64 ((wrap64 (8 * (t227.length : Int))) - 31)))) (wrap64 ((wrap64 (8 * (t227.length : Int))) - 31))) a2 t227 y240 0) = some r := by first | (rw [hy240]; with_reducible exact H) | (have H2_ := (Option.bind_some _ _).symm.trans H; rw [hy240]; with_reducible exact H2_) | (have H2_ := (Option.bind_some _ _).symm.trans H; with_reducible exact H2_) | with_reducible exact H | (rw [hy240]; exact H) | exact H
              have Ny240 := Aside0.mk hy240
              clear hy240
              have H' := Aside0.mk H
              clear H
              go_wp2_with (first | ((with_reducible refine gate_dst (N := 74) rfl ?_); (try (refine gate_guard (by rfl) ?_; dsimp only)); refine Kd.R_lit (Kd.int .u8) _ 5 ?hg (N := 74) ?hd (xs := ([] : List Int)) (inner := []) (ok := fun _ => True) (okp := fun _ => True) ?hr ?hp (fun _ hk => hk) trivial (Below.refl _ _) (Nat.le_refl _) (by simp) ?_; (case hd => rfl); (case hg => rfl); (case hr => first | (go_simp; done) | (go_simp; rfl)); (case hp => exact (Reps.none _ _)); intro v238 w26 ho27 hb hg_ hnew_; clear hg_ hnew_; (first | rw [← Ny237.out] at ho27 | (simp only [Int.reduceToNat] at ho27; rw [← Ny237.out] at ho27)); have n0_ := Aside0.mk (Kd.R_elder' (by (with_reducible repeat (first | apply Kd.R_alloc | apply Kd.R_drewN | apply Kd.R_drew)); exact HO_7.out) (Kd.R_base ho27) hb); have n1_ := Aside0.mk (Kd.R_lower (Kd.R_new' ho27 (Kd.R_lt (by (with_reducible repeat (first | apply Kd.R_alloc | apply Kd.R_drewN | apply Kd.R_drew)); exact HO_7.out))) (below_size (by repeat (first | (with_reducible first | exact HB.out | apply below_alloc | apply pw_below_drewN | apply below_drew1) | exact HB.out)))); have n2_ := Aside0.mk (below_step (by repeat (first | (with_reducible first | exact HB.out | apply below_alloc | apply pw_below_drewN | apply below_drew1) | exact HB.out)) hb); clear HO_7; clear HB; have HO_7 := n0_; have HO239 := n1_; have HB := n2_; clear n0_ n1_ n2_; clear hb ho27) | ((with_reducible refine gate_builtin (b := .append) (xs := #[.tmp 74, .tmp 75]) rfl ?_); (try (refine gate_guard (by rfl) ?_; dsimp only)); at_builtin; refine Kd.R_append_rows (Kd.int .u8) (w0 := w) w.heap.size rfl (.tmp 74) (.tmp 75) 23 5 (.int .u8 0) 1 rfl Try.underlying23 info5 rfl (by decide) (by omega) v238 y237 t227 _ _ _ (fun k_ => some k_ ≠ (.slice Ao15 t227.length co15 : Value).ownBlock) (fun _ => False) rfl rfl ?aO ?aR (fun _ _ h => h) (fun _ h => h.elim) ?aF ?aB ?aS ?aL ?_; (case aR => repeat (first | exact (Kd.R_reads' HO_7.out).2.2 | (with_reducible refine Kd.C_alloc ?_ _) | (with_reducible refine Kd.C_drewN ?_ _) | (with_reducible refine Kd.C_drew ?_))); (case aB => exact (by repeat (first | (with_reducible first | exact HB.out | apply below_alloc | apply pw_below_drewN | apply below_drew1) | exact HB.out))); (case aF => exact (fun k_ hk => Kd.fresh' (Kd.R_lt (by (with_reducible repeat (first | apply Kd.R_alloc | apply Kd.R_drewN | apply Kd.R_drew)); exact HO_7.out)) k_ hk)); (case aO => exact (by (with_reducible repeat (first | apply Kd.R_alloc | apply Kd.R_drewN | apply Kd.R_drew)); exact Kd.R_mono HO239.out (fun _ hk => hk.2))); (case aS => exact (below_size (by repeat (first | (with_reducible first | exact HB.out | apply below_alloc | apply pw_below_drewN | apply below_drew1) | exact HB.out)))); (case aL => have := LMc25.out; omega); intro v241 w28 ho hb hg hat; rw [← Ny240.out] at ho; have n0_ := Aside0.mk (Kd.R_after (ok := (fun _ => True)) (by (with_reducible repeat (first | apply Kd.R_alloc | apply Kd.R_drewN | apply Kd.R_drew)); exact HO_7.out) hg hat); have n1_ := Aside0.mk (hb); have n2_ := Aside0.mk (ho); clear HO_7; clear HB; clear HO239; have HO_7 := n0_; have HB := n1_; have HO242 := n2_; clear n0_ n1_ n2_; clear ho hb hg hat))
              go_loopg [13] kj12 (fun kq v13 w' => ∃ (x12_2 : List Int) (x13_2 : Int), v13 = .int .i64 x13_2 ∧ Aside0 (garlandlaw05_FrameBurst.l0 kq (Int.tmod (wrap64 ((Int.tmod a1 (wrap64 ((wrap64 (8 * (t227.length : Int))) - 31))) + (wrap64 ((wrap64 (8 * (t227.length : Int))) - 31)))) (wrap64 ((wrap64 (8 * (t227.length : Int))) - 31))) a2 t227 x12_2 x13_2 = some r) ∧ Aside0 (kq ≤ kj12) ∧ Aside0 (Kd.R (Kd.int .u8) 5 w' w.heap.size (fun k_ => some k_ ≠ (v241 : Value).ownBlock) (.slice Ao15 t227.length co15) t227) ∧ Aside0 (Kd.R (Kd.int .u8) 5 w' w.heap.size (fun k_ => some k_ ≠ ((.slice Ao15 t227.length co15) : Value).ownBlock) v241 x12_2) ∧ Aside0 (Below w.heap.size w w'))
              case atStart => exact ⟨(y240), (0), (by first | rfl | (simp; done) | (simp [*]; done)), H', ⟨Nat.le_refl _⟩, ⟨by (with_reducible repeat (first | apply Kd.R_alloc | apply Kd.R_drewN | apply Kd.R_drew)); exact Kd.R_mono HO_7.out (fun _ hk => hk.2)⟩, ⟨by (with_reducible repeat (first | apply Kd.R_alloc | apply Kd.R_drewN | apply Kd.R_drew)); exact HO242.out⟩, ⟨by repeat (first | (with_reducible first | exact HB.out | apply below_alloc | apply pw_below_drewN | apply below_drew1) | exact HB.out)⟩⟩
              case round =>
                clear H'
                try clear c1
                try clear c2
                try clear p2
                try clear c4
                try clear c5
                try clear c5b0
                try clear c5b1
                try clear c6
                try clear c6b0
                try clear c6b1
                try clear p6
                try clear c7
                try clear c7b0
                try clear c7b1
                try clear c10
                try clear c12
                try clear c17
                try clear c17b0
                try clear c17b1
                try clear c18
                try clear c18b0
                try clear c18b1
                try clear c20
                try clear c23
                try clear c24
                try clear c24b0
                try clear c24b1
                try clear c25
                try clear p2
                try clear p6
                obtain ⟨x12_2, x13_2, rfl, HA, HK2, HO_7, HO_12, HB⟩ := hrel
                cases gk with
                | zero => exact absurd HA.out (by simp [garlandlaw05_FrameBurst.l0])
                | succ k2 =>
                  have H := HA.out
                  clear HA
                  simp only [garlandlaw05_FrameBurst.l0] at H
                  by_cases c29 : x13_2 < 32
                  · rw [if_pos c29] at H
                    have c29b0 : decide (x13_2 < 32) = true := decide_eq_true c29
                    clear c29
                    obtain ⟨ji30, hji30⟩ : ∃ j_ : Int, (IntKind.u64.wrap (x13_2)) = j_ := ⟨_, rfl⟩
                    replace H : (if 0 ≤ (ji30) then (if (Go.bits .and .u32 (shr .u32 a2 (ji30)) 1) = 1 then (if 0 ≤ (wrap64 (Int.tdiv (wrap64 ((Int.tmod (wrap64 ((Int.tmod a1 (wrap64 ((wrap64 (8 * (t227.length : Int))) - 31))) + (wrap64 ((wrap64 (8 * (t227.length : Int))) - 31)))) (wrap64 ((wrap64 (8 * (t227.length : Int))) - 31))) + x13_2)) 8)) then (if (wrap64 (Int.tdiv (wrap64 ((Int.tmod (wrap64 ((Int.tmod a1 (wrap64 ((wrap64 (8 * (t227.length : Int))) - 31))) + (wrap64 ((wrap64 (8 * (t227.length : Int))) - 31)))) (wrap64 ((wrap64 (8 * (t227.length : Int))) - 31))) + x13_2)) 8)) < (x12_2.length : Int) then (if 0 ≤ (IntKind.u64.wrap (Int.tmod (wrap64 ((Int.tmod (wrap64 ((Int.tmod a1 (wrap64 ((wrap64 (8 * (t227.length : Int))) - 31))) + (wrap64 ((wrap64 (8 * (t227.length : Int))) - 31)))) (wrap64 ((wrap64 (8 * (t227.length : Int))) - 31))) + x13_2)) 8)) then (garlandlaw05_FrameBurst.l0 k2 (Int.tmod (wrap64 ((Int.tmod a1 (wrap64 ((wrap64 (8 * (t227.length : Int))) - 31))) + (wrap64 ((wrap64 (8 * (t227.length : Int))) - 31)))) (wrap64 ((wrap64 (8 * (t227.length : Int))) - 31))) a2 t227 (x12_2.set ((wrap64 (Int.tdiv (wrap64 ((Int.tmod (wrap64 ((Int.tmod a1 (wrap64 ((wrap64 (8 * (t227.length : Int))) - 31))) + (wrap64 ((wrap64 (8 * (t227.length : Int))) - 31)))) (wrap64 ((wrap64 (8 * (t227.length : Int))) - 31))) + x13_2)) 8)) : Int).toNat (Go.bits .xor .u8 (rd x12_2 (wrap64 (Int.tdiv (wrap64 ((Int.tmod (wrap64 ((Int.tmod a1 (wrap64 ((wrap64 (8 * (t227.length : Int))) - 31))) + (wrap64 ((wrap64 (8 * (t227.length : Int))) - 31)))) (wrap64 ((wrap64 (8 * (t227.length : Int))) - 31))) + x13_2)) 8))) (shr .u8 128 (IntKind.u64.wrap (Int.tmod (wrap64 ((Int.tmod (wrap64 ((Int.tmod a1 (wrap64 ((wrap64 (8 * (t227.length : Int))) - 31))) + (wrap64 ((wrap64 (8 * (t227.length : Int))) - 31)))) (wrap64 ((wrap64 (8 * (t227.length : Int))) - 31))) + x13_2)) 8))))) (wrap64 (x13_2 + 1))) else (none)) else (none)) else (none)) else (garlandlaw05_FrameBurst.l0 k2 (Int.tmod (wrap64 ((Int.tmod a1 (wrap64 ((wrap64 (8 * (t227.length : Int))) - 31))) + (wrap64 ((wrap64 (8 * (t227.length : Int))) - 31)))) (wrap64 ((wrap64 (8 * (t227.length : Int))) - 31))) a2 t227 x12_2 (wrap64 (x13_2 + 1)))) else (none)) = some r := by first | (rw [hji30] at H; exact H) | (simp only [hji30] at H ⊢; exact H)
                    by_cases c31 : 0 ≤ (ji30)
                    · rw [if_pos c31] at H
                      have c31b0 := eq_true c31
                      have c31b1 : decide (0 ≤ (ji30)) = true := decide_eq_true c31
                      clear c31
                      obtain ⟨ji32, hji32⟩ : ∃ j_ : Int, (shr .u32 a2 (ji30)) = j_ := ⟨_, rfl⟩
                      replace H : (if (Go.bits .and .u32 (ji32) 1) = 1 then (if 0 ≤ (wrap64 (Int.tdiv (wrap64 ((Int.tmod (wrap64 ((Int.tmod a1 (wrap64 ((wrap64 (8 * (t227.length : Int))) - 31))) + (wrap64 ((wrap64 (8 * (t227.length : Int))) - 31)))) (wrap64 ((wrap64 (8 * (t227.length : Int))) - 31))) + x13_2)) 8)) then (if (wrap64 (Int.tdiv (wrap64 ((Int.tmod (wrap64 ((Int.tmod a1 (wrap64 ((wrap64 (8 * (t227.length : Int))) - 31))) + (wrap64 ((wrap64 (8 * (t227.length : Int))) - 31)))) (wrap64 ((wrap64 (8 * (t227.length : Int))) - 31))) + x13_2)) 8)) < (x12_2.length : Int) then (if 0 ≤ (IntKind.u64.wrap (Int.tmod (wrap64 ((Int.tmod (wrap64 ((Int.tmod a1 (wrap64 ((wrap64 (8 * (t227.length : Int))) - 31))) + (wrap64 ((wrap64 (8 * (t227.length : Int))) - 31)))) (wrap64 ((wrap64 (8 * (t227.length : Int))) - 31))) + x13_2)) 8)) then (garlandlaw05_FrameBurst.l0 k2 (Int.tmod (wrap64 ((Int.tmod a1 (wrap64 ((wrap64 (8 * (t227.length : Int))) - 31))) + (wrap64 ((wrap64 (8 * (t227.length : Int))) - 31)))) (wrap64 ((wrap64 (8 * (t227.length : Int))) - 31))) a2 t227 (x12_2.set ((wrap64 (Int.tdiv (wrap64 ((Int.tmod (wrap64 ((Int.tmod a1 (wrap64 ((wrap64 (8 * (t227.length : Int))) - 31))) + (wrap64 ((wrap64 (8 * (t227.length : Int))) - 31)))) (wrap64 ((wrap64 (8 * (t227.length : Int))) - 31))) + x13_2)) 8)) : Int).toNat (Go.bits .xor .u8 (rd x12_2 (wrap64 (Int.tdiv (wrap64 ((Int.tmod (wrap64 ((Int.tmod a1 (wrap64 ((wrap64 (8 * (t227.length : Int))) - 31))) + (wrap64 ((wrap64 (8 * (t227.length : Int))) - 31)))) (wrap64 ((wrap64 (8 * (t227.length : Int))) - 31))) + x13_2)) 8))) (shr .u8 128 (IntKind.u64.wrap (Int.tmod (wrap64 ((Int.tmod (wrap64 ((Int.tmod a1 (wrap64 ((wrap64 (8 * (t227.length : Int))) - 31))) + (wrap64 ((wrap64 (8 * (t227.length : Int))) - 31)))) (wrap64 ((wrap64 (8 * (t227.length : Int))) - 31))) + x13_2)) 8))))) (wrap64 (x13_2 + 1))) else (none)) else (none)) else (none)) else (garlandlaw05_FrameBurst.l0 k2 (Int.tmod (wrap64 ((Int.tmod a1 (wrap64 ((wrap64 (8 * (t227.length : Int))) - 31))) + (wrap64 ((wrap64 (8 * (t227.length : Int))) - 31)))) (wrap64 ((wrap64 (8 * (t227.length : Int))) - 31))) a2 t227 x12_2 (wrap64 (x13_2 + 1)))) = some r := by first | (rw [hji32] at H; exact H) | (simp only [hji32] at H ⊢; exact H)
                      have hji32_ : (a2 / 2 ^ min (ji30).toNat 32) = ji32 := hji32
                      have hji32z : (ji30) ≤ 32 → (a2 / 2 ^ (ji30).toNat) = ji32 := shr_small hji32
                      by_cases c33 : (Go.bits .and .u32 (ji32) 1) = 1
                      · rw [if_pos c33] at H
                        have c33b0 : ((Go.bits .and .u32 (ji32) 1) == 1) = true := beq_iff_eq.mpr c33
                        have c33b1 : ((Go.bits .and .u32 (ji32) 1) != 1) = false := bne_eq_false_iff_eq.mpr c33
                        clear c33
                        obtain ⟨ji34, hji34⟩ : ∃ j_ : Int, (wrap64 (Int.tdiv (wrap64 ((Int.tmod (wrap64 ((Int.tmod a1 (wrap64 ((wrap64 (8 * (t227.length : Int))) - 31))) + (wrap64 ((wrap64 (8 * (t227.length : Int))) - 31)))) (wrap64 ((wrap64 (8 * (t227.length : Int))) - 31))) + x13_2)) 8)) = j_ := ⟨_, rfl⟩
                        replace H : (if 0 ≤ (ji34) then (if (ji34) < (x12_2.length : Int) then (if 0 ≤ (IntKind.u64.wrap (Int.tmod (wrap64 ((Int.tmod (wrap64 ((Int.tmod a1 (wrap64 ((wrap64 (8 * (t227.length : Int))) - 31))) + (wrap64 ((wrap64 (8 * (t227.length : Int))) - 31)))) (wrap64 ((wrap64 (8 * (t227.length : Int))) - 31))) + x13_2)) 8)) then (garlandlaw05_FrameBurst.l0 k2 (Int.tmod (wrap64 ((Int.tmod a1 (wrap64 ((wrap64 (8 * (t227.length : Int))) - 31))) + (wrap64 ((wrap64 (8 * (t227.length : Int))) - 31)))) (wrap64 ((wrap64 (8 * (t227.length : Int))) - 31))) a2 t227 (x12_2.set ((ji34) : Int).toNat (Go.bits .xor .u8 (rd x12_2 (ji34)) (shr .u8 128 (IntKind.u64.wrap (Int.tmod (wrap64 ((Int.tmod (wrap64 ((Int.tmod a1 (wrap64 ((wrap64 (8 * (t227.length : Int))) - 31))) + (wrap64 ((wrap64 (8 * (t227.length : Int))) - 31)))) (wrap64 ((wrap64 (8 * (t227.length : Int))) - 31))) + x13_2)) 8))))) (wrap64 (x13_2 + 1))) else (none)) else (none)) else (none)) = some r := by first | (rw [hji34] at H; exact H) | (simp only [hji34] at H ⊢; exact H)
                        have hji34w : (IntKind.i64.wrap (Int.tdiv (wrap64 ((Int.tmod (wrap64 ((Int.tmod a1 (wrap64 ((wrap64 (8 * (t227.length : Int))) - 31))) + (wrap64 ((wrap64 (8 * (t227.length : Int))) - 31)))) (wrap64 ((wrap64 (8 * (t227.length : Int))) - 31))) + x13_2)) 8)) = ji34 := (i64_w _).trans hji34
                        by_cases c35 : 0 ≤ (ji34)
                        · rw [if_pos c35] at H
                          have c35b0 : decide (0 ≤ (ji34)) = true := decide_eq_true c35
                          clear c35
                          by_cases c36 : (ji34) < (x12_2.length : Int)
                          · rw [if_pos c36] at H
                            have c36b0 : decide ((ji34) < (x12_2.length : Int)) = true := decide_eq_true c36
                            clear c36
                            obtain ⟨ji37, hji37⟩ : ∃ j_ : Int, (IntKind.u64.wrap (Int.tmod (wrap64 ((Int.tmod (wrap64 ((Int.tmod a1 (wrap64 ((wrap64 (8 * (t227.length : Int))) - 31))) + (wrap64 ((wrap64 (8 * (t227.length : Int))) - 31)))) (wrap64 ((wrap64 (8 * (t227.length : Int))) - 31))) + x13_2)) 8)) = j_ := ⟨_, rfl⟩
                            replace H : (if 0 ≤ (ji37) then (garlandlaw05_FrameBurst.l0 k2 (Int.tmod (wrap64 ((Int.tmod a1 (wrap64 ((wrap64 (8 * (t227.length : Int))) - 31))) + (wrap64 ((wrap64 (8 * (t227.length : Int))) - 31)))) (wrap64 ((wrap64 (8 * (t227.length : Int))) - 31))) a2 t227 (x12_2.set ((ji34) : Int).toNat (Go.bits .xor .u8 (rd x12_2 (ji34)) (shr .u8 128 (ji37)))) (wrap64 (x13_2 + 1))) else (none)) = some r := by first | (rw [hji37] at H; exact H) | (simp only [hji37] at H ⊢; exact H)
                            by_cases c38 : 0 ≤ (ji37)
                            · rw [if_pos c38] at H
                              have c38b0 := eq_true c38
                              have c38b1 : decide (0 ≤ (ji37)) = true := decide_eq_true c38
                              clear c38
                              obtain ⟨ji39, hji39⟩ : ∃ j_ : Int, (shr .u8 128 (ji37)) = j_ := ⟨_, rfl⟩
                              replace H : (garlandlaw05_FrameBurst.l0 k2 (Int.tmod (wrap64 ((Int.tmod a1 (wrap64 ((wrap64 (8 * (t227.length : Int))) - 31))) + (wrap64 ((wrap64 (8 * (t227.length : Int))) - 31)))) (wrap64 ((wrap64 (8 * (t227.length : Int))) - 31))) a2 t227 (x12_2.set ((ji34) : Int).toNat (Go.bits .xor .u8 (rd x12_2 (ji34)) (ji39))) (wrap64 (x13_2 + 1))) = some r := by first | (rw [hji39] at H; exact H) | (simp only [hji39] at H ⊢; exact H)
                              have hji39_ : (128 / 2 ^ min (ji37).toNat 8) = ji39 := hji39
                              have hji39z : (ji37) ≤ 8 → (128 / 2 ^ (ji37).toNat) = ji39 := shr_small hji39
                              obtain ⟨y244, hy244⟩ : ∃ y_ : List Int, y_ = (x12_2.set ((ji34) : Int).toNat (Go.bits .xor .u8 (rd x12_2 (ji34)) (ji39))) := ⟨_, rfl⟩
                              replace H : (garlandlaw05_FrameBurst.l0 k2 (Int.tmod (wrap64 ((Int.tmod a1 (wrap64 ((wrap64 (8 * (t227.length : Int))) - 31))) + (wrap64 ((wrap64 (8 * (t227.length : Int))) - 31)))) (wrap64 ((wrap64 (8 * (t227.length : Int))) - 31))) a2 t227 y244 (wrap64 (x13_2 + 1))) = some r := by first | (rw [hy244]; with_reducible exact H) | (have H2_ := (Option.bind_some _ _).symm.trans H; rw [hy244]; with_reducible exact H2_) | (have H2_ := (Option.bind_some _ _).symm.trans H; with_reducible exact H2_) | with_reducible exact H | (rw [hy244]; exact H) | exact H
                              have Ny244 := Aside0.mk hy244
                              clear hy244
                              have H' := Aside0.mk H
                              clear H
                              obtain ⟨Ao41, co41, eo41⟩ := Kd.R_slice HO_12.out
                              subst eo41
                              have p243 : 0 ≤ ((ji34) : Int) := of_decide_eq_true (by first | (with_reducible assumption) | assumption)
                              have q243 : (ji34) < (x12_2.length : Int) := of_decide_eq_true (by first | (with_reducible assumption) | assumption)
                              obtain ⟨ad243, e243, hx243_0⟩ := Kd.at_int (Kd.R_reads' HO_12.out).2.2 (ji34) p243 q243
                              cases e243
                              replace p243 := eq_true p243
                              replace q243 := eq_true q243
                              have p40 : 0 ≤ ((ji34) : Int) := of_decide_eq_true (by first | (with_reducible assumption) | assumption)
                              have q40 : ((ji34) : Int) < ((x12_2.length : Int) : Int) := of_decide_eq_true (by first | (with_reducible assumption) | assumption)
                              obtain ⟨go40, co40, eo40, gb40, gl40, cl40, HG40⟩ := Kd.R_form HO_12.out (by omega)
                              (first | cases eo40 | (injection eo40 with ea_ en_ ec_; (first | subst ea_ | (injection ea_ with ea_; subst ea_)); subst ec_; clear en_))
                              have GB40 := Aside0.mk gb40
                              have GG40 := Aside0.mk HG40
                              clear gb40 gl40 HG40
                              (first | simp only [add_plain] at hx243_0 | skip)
                              obtain ⟨hx40_0, hf40_0⟩ := Kd.R_celln 0 HO_12.out ((ji34) : Int) p40 q40
                              replace p40 := eq_true p40
                              replace q40 := eq_true q40
                              have HP42 := Kd.R_putg HO_12.out ((ji34) : Int) (Go.bits .xor .u8 (rd x12_2 (ji34)) (ji39))
                              go_wp2_with (first | ((with_reducible refine gate_store (t := 5) (p := 106) rfl ?_); refine store_event (t := 5) (p := 106) (v := ?vo_w43) (w1 := (wr.setCell ⟨go40, ((ji34) : Int).toNat, none⟩ (.int .u8 (Go.bits .xor .u8 (rd x12_2 (ji34)) (ji39))))) ?hg ?ho ?hn ?hr ?_; (case ho => rfl); (case hg => rfl); (case hn => rfl); (case hr => first | (go_simp; done) | (go_simp; rfl)); intro w43 hw; have hg : wr.grownBy w43 (some go40) := (by rw [hw]; exact HP42.2); have hp_ : Kd.R (Kd.int .u8) 5 w43 w.heap.size (fun k_ => some k_ ≠ (.slice Ao15 t227.length co15 : Value).ownBlock) (.slice (some ⟨go40, 0, none⟩) x12_2.length co41) y244 := (by rw [hw, Ny244.out]; exact HP42.1); clear HP42; have n0_ := Aside0.mk (Kd.R_after (v := (.slice (some ⟨go40, 0, none⟩) x12_2.length co41)) (v1 := (.slice (some ⟨go40, 0, none⟩) x12_2.length co41)) (ok := (fun _ => True)) (by (with_reducible repeat (first | apply Kd.R_alloc | apply Kd.R_drewN | apply Kd.R_drew)); exact Kd.R_mono HO_7.out (fun _ hk => ⟨trivial, hk⟩)) hg (.inl rfl)); have n1_ := Aside0.mk (hp_); have n2_ := Aside0.mk ((by rw [hw]; exact below_set (HB.out) GB40.out : Below w.heap.size w w43)); clear HO_7; clear HO_12; clear HB; have HO_7 := n0_; have HO_12 := n1_; have HB := n2_; clear n0_ n1_ n2_; clear hg hw hp_))
                              go_roundg k2
                              case measure => have := HJ12.out; have := HK2.out; omega
                              case rel => exact ⟨(y244), (wrap64 (x13_2 + 1)), (by first | rfl | (simp; done) | (simp [*]; done)), H', ⟨by have := HJ12.out; have := HK2.out; omega⟩, ⟨by (with_reducible repeat (first | apply Kd.R_alloc | apply Kd.R_drewN | apply Kd.R_drew)); exact Kd.R_mono HO_7.out (fun _ hk => hk.2)⟩, ⟨by (with_reducible repeat (first | apply Kd.R_alloc | apply Kd.R_drewN | apply Kd.R_drew)); exact HO_12.out⟩, ⟨by repeat (first | (with_reducible first | exact HB.out | apply below_alloc | apply pw_below_drewN | apply below_drew1) | exact HB.out)⟩⟩
                            · rw [if_neg c38] at H
                              exact absurd H (by simp)
                          · rw [if_neg c36] at H
                            exact absurd H (by simp)
                        · rw [if_neg c35] at H
                          exact absurd H (by simp)
                      · rw [if_neg c33] at H
                        have c33b0 : ((Go.bits .and .u32 (ji32) 1) == 1) = false := beq_eq_false_iff_ne.mpr c33
                        have c33b1 : ((Go.bits .and .u32 (ji32) 1) != 1) = true := bne_iff_ne.mpr c33
                        have H' := Aside0.mk H
                        clear H
                        go_wp2
                        go_roundg k2
                        case measure => have := HJ12.out; have := HK2.out; omega
                        case rel => exact ⟨(x12_2), (wrap64 (x13_2 + 1)), (by first | rfl | (simp; done) | (simp [*]; done)), H', ⟨by have := HJ12.out; have := HK2.out; omega⟩, ⟨by (with_reducible repeat (first | apply Kd.R_alloc | apply Kd.R_drewN | apply Kd.R_drew)); exact HO_7.out⟩, ⟨by (with_reducible repeat (first | apply Kd.R_alloc | apply Kd.R_drewN | apply Kd.R_drew)); exact HO_12.out⟩, ⟨by repeat (first | (with_reducible first | exact HB.out | apply below_alloc | apply pw_below_drewN | apply below_drew1) | exact HB.out)⟩⟩
                    · rw [if_neg c31] at H
                      exact absurd H (by simp)
                  · rw [if_neg c29] at H
                    have c29b0 : decide (x13_2 < 32) = false := decide_eq_false c29
                    clear c29
                    replace H := Option.bind_eq_some_iff.mp H
                    obtain ⟨⟨t245, t246⟩, A440, H⟩ := H
                    replace H : ((some (([] : List Int) : List Int)).bind fun y249 => (if y249.length + t227.length < 140737488355328 then ((some (y249 ++ t227 : List Int)).bind fun y252 => (if y252.length < 140737488355328 then ((frame_Open.f (y252 ++ [(a2) % 256])).bind fun bt258 => (if 0 ≤ (wrap64 ((t227.length : Int) - 1)) then (if (wrap64 ((t227.length : Int) - 1)) ≤ (t227.length : Int) then ((frame_Open.f (t227.take ((wrap64 ((t227.length : Int) - 1)) : Int).toNat)).bind fun bt266 => (if ((t246 == 0) == (a2 == 0)) = true then (if bt258.2 = 12 then (if bt266.2 = 12 then ((garlandlaw05_wakes.f).bind fun t270 => (some t270)) else (if (t227.length : Int) = 8 then (if bt266.2 = 11 then ((garlandlaw05_wakes.f).bind fun t271 => (some t271)) else (none)) else (none))) else (none)) else (none))) else (none)) else (none))) else (none))) else (none))) = some r := H
                    have A44 := Aside0.mk A440
                    clear A440
                    obtain ⟨y249, hy249⟩ : ∃ y_ : List Int, y_ = (([] : List Int)) := ⟨_, rfl⟩
                    replace H : (if y249.length + t227.length < 140737488355328 then ((some (y249 ++ t227 : List Int)).bind fun y252 => (if y252.length < 140737488355328 then ((frame_Open.f (y252 ++ [(a2) % 256])).bind fun bt258 => (if 0 ≤ (wrap64 ((t227.length : Int) - 1)) then (if (wrap64 ((t227.length : Int) - 1)) ≤ (t227.length : Int) then ((frame_Open.f (t227.take ((wrap64 ((t227.length : Int) - 1)) : Int).toNat)).bind fun bt266 => (if ((t246 == 0) == (a2 == 0)) = true then (if bt258.2 = 12 then (if bt266.2 = 12 then ((garlandlaw05_wakes.f).bind fun t270 => (some t270)) else (if (t227.length : Int) = 8 then (if bt266.2 = 11 then ((garlandlaw05_wakes.f).bind fun t271 => (some t271)) else (none)) else (none))) else (none)) else (none))) else (none)) else (none))) else (none))) else (none)) = some r := by first | (rw [hy249]; with_reducible exact H) | (have H2_ := (Option.bind_some _ _).symm.trans H; rw [hy249]; with_reducible exact H2_) | (have H2_ := (Option.bind_some _ _).symm.trans H; with_reducible exact H2_) | with_reducible exact H | (rw [hy249]; exact H) | exact H
                    have Ny249 := Aside0.mk hy249
                    clear hy249
                    by_cases c45 : y249.length + t227.length < 140737488355328
                    · rw [if_pos c45] at H
                      have LMc45 := Aside0.mk c45
                      clear c45
                      obtain ⟨y252, hy252⟩ : ∃ y_ : List Int, y_ = (y249 ++ t227) := ⟨_, rfl⟩
                      replace H : (if y252.length < 140737488355328 then ((frame_Open.f (y252 ++ [(a2) % 256])).bind fun bt258 => (if 0 ≤ (wrap64 ((t227.length : Int) - 1)) then (if (wrap64 ((t227.length : Int) - 1)) ≤ (t227.length : Int) then ((frame_Open.f (t227.take ((wrap64 ((t227.length : Int) - 1)) : Int).toNat)).bind fun bt266 => (if ((t246 == 0) == (a2 == 0)) = true then (if bt258.2 = 12 then (if bt266.2 = 12 then ((garlandlaw05_wakes.f).bind fun t270 => (some t270)) else (if (t227.length : Int) = 8 then (if bt266.2 = 11 then ((garlandlaw05_wakes.f).bind fun t271 => (some t271)) else (none)) else (none))) else (none)) else (none))) else (none)) else (none))) else (none)) = some r := by first | (rw [hy252]; with_reducible exact H) | (have H2_ := (Option.bind_some _ _).symm.trans H; rw [hy252]; with_reducible exact H2_) | (have H2_ := (Option.bind_some _ _).symm.trans H; with_reducible exact H2_) | with_reducible exact H | (rw [hy252]; exact H) | exact H
                      have Ny252 := Aside0.mk hy252
                      clear hy252
                      by_cases c46 : y252.length < 140737488355328
                      · rw [if_pos c46] at H
                        have LMc46 := Aside0.mk c46
                        clear c46
                        obtain ⟨y255, hy255⟩ : ∃ y_ : List Int, y_ = (y252 ++ [(a2) % 256]) := ⟨_, rfl⟩
                        replace H : ((frame_Open.f y255).bind fun bt258 => (if 0 ≤ (wrap64 ((t227.length : Int) - 1)) then (if (wrap64 ((t227.length : Int) - 1)) ≤ (t227.length : Int) then ((frame_Open.f (t227.take ((wrap64 ((t227.length : Int) - 1)) : Int).toNat)).bind fun bt266 => (if ((t246 == 0) == (a2 == 0)) = true then (if bt258.2 = 12 then (if bt266.2 = 12 then ((garlandlaw05_wakes.f).bind fun t270 => (some t270)) else (if (t227.length : Int) = 8 then (if bt266.2 = 11 then ((garlandlaw05_wakes.f).bind fun t271 => (some t271)) else (none)) else (none))) else (none)) else (none))) else (none)) else (none))) = some r := by first | (rw [hy255]; with_reducible exact H) | (have H2_ := (Option.bind_some _ _).symm.trans H; rw [hy255]; with_reducible exact H2_) | (have H2_ := (Option.bind_some _ _).symm.trans H; with_reducible exact H2_) | with_reducible exact H | (rw [hy255]; exact H) | exact H
                        have Ny255 := Aside0.mk hy255
                        clear hy255
                        replace H := Option.bind_eq_some_iff.mp H
                        obtain ⟨⟨t258, t259⟩, A470, H⟩ := H
                        replace H : (if 0 ≤ (wrap64 ((t227.length : Int) - 1)) then (if (wrap64 ((t227.length : Int) - 1)) ≤ (t227.length : Int) then ((frame_Open.f (t227.take ((wrap64 ((t227.length : Int) - 1)) : Int).toNat)).bind fun bt266 => (if ((t246 == 0) == (a2 == 0)) = true then (if t259 = 12 then (if bt266.2 = 12 then ((garlandlaw05_wakes.f).bind fun t270 => (some t270)) else (if (t227.length : Int) = 8 then (if bt266.2 = 11 then ((garlandlaw05_wakes.f).bind fun t271 => (some t271)) else (none)) else (none))) else (none)) else (none))) else (none)) else (none)) = some r := H
                        have A47 := Aside0.mk A470
                        clear A470
                        obtain ⟨ji48, hji48⟩ : ∃ j_ : Int, (wrap64 ((t227.length : Int) - 1)) = j_ := ⟨_, rfl⟩
                        replace H : (if 0 ≤ (ji48) then (if (ji48) ≤ (t227.length : Int) then ((frame_Open.f (t227.take ((ji48) : Int).toNat)).bind fun bt266 => (if ((t246 == 0) == (a2 == 0)) = true then (if t259 = 12 then (if bt266.2 = 12 then ((garlandlaw05_wakes.f).bind fun t270 => (some t270)) else (if (t227.length : Int) = 8 then (if bt266.2 = 11 then ((garlandlaw05_wakes.f).bind fun t271 => (some t271)) else (none)) else (none))) else (none)) else (none))) else (none)) else (none)) = some r := by first | (rw [hji48] at H; exact H) | (simp only [hji48] at H ⊢; exact H)
                        (try rw [hji48] at A44)
                        (try rw [hji48] at A47)
                        have hji48w : (IntKind.i64.wrap ((t227.length : Int) - 1)) = ji48 := (i64_w _).trans hji48
                        by_cases c49 : 0 ≤ (ji48)
                        · rw [if_pos c49] at H
                          have c49b0 := eq_true c49
                          have c49b1 : decide (0 ≤ (ji48)) = true := decide_eq_true c49
                          clear c49
                          by_cases c50 : (ji48) ≤ (t227.length : Int)
                          · rw [if_pos c50] at H
                            have c50b0 := eq_true c50
                            have c50b1 : decide ((ji48) ≤ (t227.length : Int)) = true := decide_eq_true c50
                            clear c50
                            obtain ⟨y262, hy262⟩ : ∃ y_ : List Int, y_ = (t227.take ((ji48) : Int).toNat) := ⟨_, rfl⟩
                            replace H : ((frame_Open.f y262).bind fun bt266 => (if ((t246 == 0) == (a2 == 0)) = true then (if t259 = 12 then (if bt266.2 = 12 then ((garlandlaw05_wakes.f).bind fun t270 => (some t270)) else (if (t227.length : Int) = 8 then (if bt266.2 = 11 then ((garlandlaw05_wakes.f).bind fun t271 => (some t271)) else (none)) else (none))) else (none)) else (none))) = some r := by first | (rw [hy262]; with_reducible exact H) | (have H2_ := (Option.bind_some _ _).symm.trans H; rw [hy262]; with_reducible exact H2_) | (have H2_ := (Option.bind_some _ _).symm.trans H; with_reducible exact H2_) | with_reducible exact H | (rw [hy262]; exact H) | exact H
                            have Ny262 := Aside0.mk hy262
                            clear hy262
                            replace H := Option.bind_eq_some_iff.mp H
                            obtain ⟨⟨t266, t267⟩, A510, H⟩ := H
                            replace H : (if ((t246 == 0) == (a2 == 0)) = true then (if t259 = 12 then (if t267 = 12 then ((garlandlaw05_wakes.f).bind fun t270 => (some t270)) else (if (t227.length : Int) = 8 then (if t267 = 11 then ((garlandlaw05_wakes.f).bind fun t271 => (some t271)) else (none)) else (none))) else (none)) else (none)) = some r := H
                            have A51 := Aside0.mk A510
                            clear A510
                            by_cases c52 : ((t246 == 0) == (a2 == 0)) = true
                            · rw [if_pos c52] at H
                              have c52b0 : ((t246 == 0) == (a2 == 0)) = true := c52
                              (try (have c52b1 : decide ((t246 == 0) = (a2 == 0)) = true := by simpa using c52))
                              (try (have c52b2 : ((t246 == 0) == (a2 == 0)) = true := by simpa using c52))
                              clear c52
                              by_cases c53 : t259 = 12
                              · rw [if_pos c53] at H
                                have c53b0 : (t259 == 12) = true := beq_iff_eq.mpr c53
                                have c53b1 : (t259 != 12) = false := bne_eq_false_iff_eq.mpr c53
                                clear c53
                                by_cases c54 : t267 = 12
                                · rw [if_pos c54] at H
                                  have c54b0 : (t267 == 12) = true := beq_iff_eq.mpr c54
                                  have c54b1 : (t267 != 12) = false := bne_eq_false_iff_eq.mpr c54
                                  clear c54
                                  replace H := Option.bind_eq_some_iff.mp H
                                  obtain ⟨t270, A550, H⟩ := H
                                  replace H : (some t270) = some r := H
                                  have A55 := Aside0.mk A550
                                  clear A550
                                  obtain rfl := Option.some.inj H
                                  obtain ⟨Ao56, co56, eo56⟩ := Kd.R_slice HO_12.out
                                  subst eo56
                                  go_wp2_with (first | ((with_reducible refine gate_callee (f := 12) rfl ?_); refine goesL_ (some 109) rfl rfl Try.func12 (by kernel_rfl) rfl #[.slice Ao56 x12_2.length co56] rfl (by (try simp only [List.map_toArray, List.map_cons, List.map_nil]); first | done | rfl | (simp only [List.length_drop, List.length_take]; rfl)) ?_; (with_reducible refine (frame_Open.calls _ _ x12_2 t245 t246 _ ?side1 ?side2 A44.out).mono ?_); (case side1 => repeat (first | exact (Kd.R_reads' HO_12.out).2.2 | (with_reducible refine Kd.C_alloc ?_ _) | (with_reducible refine Kd.C_drewN ?_ _) | (with_reducible refine Kd.C_drew ?_))); (case side2 => exact (Kd.R_reads' HO_12.out).2.1); rintro e w57 ⟨v247, rfl, ho0, hb⟩; refine ⟨_, rfl, ?_⟩; have n0_ := Aside0.mk (Kd.R_elder' (by (with_reducible repeat (first | apply Kd.R_alloc | apply Kd.R_drewN | apply Kd.R_drew)); exact HO_7.out) (Kd.R_base ho0) hb); have n1_ := Aside0.mk (Kd.R_elder' (by (with_reducible repeat (first | apply Kd.R_alloc | apply Kd.R_drewN | apply Kd.R_drew)); exact HO_12.out) (Kd.R_base ho0) hb); have n2_ := Aside0.mk (Kd.R_lower (Kd.R_new' (Kd.R_new' ho0 (Kd.R_lt (by (with_reducible repeat (first | apply Kd.R_alloc | apply Kd.R_drewN | apply Kd.R_drew)); exact HO_7.out))) (Kd.R_lt (by (with_reducible repeat (first | apply Kd.R_alloc | apply Kd.R_drewN | apply Kd.R_drew)); exact HO_12.out))) (below_size (by repeat (first | (with_reducible first | exact HB.out | apply below_alloc | apply pw_below_drewN | apply below_drew1) | exact HB.out)))); have n3_ := Aside0.mk (below_step (by repeat (first | (with_reducible first | exact HB.out | apply below_alloc | apply pw_below_drewN | apply below_drew1) | exact HB.out)) hb); clear HO_7; clear HO_12; clear HB; have HO_7 := n0_; have HO_12 := n1_; have HO248 := n2_; have HB := n3_; clear n0_ n1_ n2_ n3_; (try clear hb); (try clear hb2); (try clear hk); (try clear hi); (try clear ho0)) | ((with_reducible refine gate_dst (N := 113) rfl ?_); (try (refine gate_guard (by rfl) ?_; dsimp only)); refine Kd.R_lit (Kd.int .u8) _ 5 ?hg (N := 113) ?hd (xs := ([] : List Int)) (inner := []) (ok := fun _ => True) (okp := fun _ => True) ?hr ?hp (fun _ hk => hk) trivial (Below.refl _ _) (Nat.le_refl _) (by simp) ?_; (case hd => rfl); (case hg => rfl); (case hr => first | (go_simp; done) | (go_simp; rfl)); (case hp => exact (Reps.none _ _)); intro v250 w58 ho59 hb hg_ hnew_; clear hg_ hnew_; (first | rw [← Ny249.out] at ho59 | (simp only [Int.reduceToNat] at ho59; rw [← Ny249.out] at ho59)); have n0_ := Aside0.mk (Kd.R_elder' (by (with_reducible repeat (first | apply Kd.R_alloc | apply Kd.R_drewN | apply Kd.R_drew)); exact HO_7.out) (Kd.R_base ho59) hb); have n1_ := Aside0.mk (Kd.R_elder' (by (with_reducible repeat (first | apply Kd.R_alloc | apply Kd.R_drewN | apply Kd.R_drew)); exact HO_12.out) (Kd.R_base ho59) hb); have n2_ := Aside0.mk (Kd.R_elder' (by (with_reducible repeat (first | apply Kd.R_alloc | apply Kd.R_drewN | apply Kd.R_drew)); exact HO248.out) (Kd.R_base ho59) hb); have n3_ := Aside0.mk (Kd.R_lower (Kd.R_new' (Kd.R_new' (Kd.R_new' ho59 (Kd.R_lt (by (with_reducible repeat (first | apply Kd.R_alloc | apply Kd.R_drewN | apply Kd.R_drew)); exact HO_7.out))) (Kd.R_lt (by (with_reducible repeat (first | apply Kd.R_alloc | apply Kd.R_drewN | apply Kd.R_drew)); exact HO_12.out))) (Kd.R_lt (by (with_reducible repeat (first | apply Kd.R_alloc | apply Kd.R_drewN | apply Kd.R_drew)); exact HO248.out))) (below_size (by repeat (first | (with_reducible first | exact HB.out | apply below_alloc | apply pw_below_drewN | apply below_drew1) | exact HB.out)))); have n4_ := Aside0.mk (below_step (by repeat (first | (with_reducible first | exact HB.out | apply below_alloc | apply pw_below_drewN | apply below_drew1) | exact HB.out)) hb); clear HO_7; clear HO_12; clear HO248; clear HB; have HO_7 := n0_; have HO_12 := n1_; have HO248 := n2_; have HO251 := n3_; have HB := n4_; clear n0_ n1_ n2_ n3_ n4_; clear hb ho59) | ((with_reducible refine gate_builtin (b := .append) (xs := #[.tmp 113, .tmp 114]) rfl ?_); (try (refine gate_guard (by rfl) ?_; dsimp only)); at_builtin; refine Kd.R_append_rows (Kd.int .u8) (w0 := w) w.heap.size rfl (.tmp 113) (.tmp 114) 23 5 (.int .u8 0) 1 rfl Try.underlying23 info5 rfl (by decide) (by omega) v250 y249 t227 _ _ _ (fun k_ => some k_ ≠ (.slice Ao15 t227.length co15 : Value).ownBlock ∧ some k_ ≠ (.slice Ao56 x12_2.length co56 : Value).ownBlock ∧ some k_ ≠ (v247 : Value).ownBlock) (fun _ => False) rfl rfl ?aO ?aR (fun _ _ h => h) (fun _ h => h.elim) ?aF ?aB ?aS ?aL ?_; (case aR => repeat (first | exact (Kd.R_reads' HO_7.out).2.2 | (with_reducible refine Kd.C_alloc ?_ _) | (with_reducible refine Kd.C_drewN ?_ _) | (with_reducible refine Kd.C_drew ?_))); (case aB => exact (by repeat (first | (with_reducible first | exact HB.out | apply below_alloc | apply pw_below_drewN | apply below_drew1) | exact HB.out))); (case aF => exact (fun k_ hk => ⟨Kd.fresh' (Kd.R_lt (by (with_reducible repeat (first | apply Kd.R_alloc | apply Kd.R_drewN | apply Kd.R_drew)); exact HO_7.out)) k_ hk, Kd.fresh' (Kd.R_lt (by (with_reducible repeat (first | apply Kd.R_alloc | apply Kd.R_drewN | apply Kd.R_drew)); exact HO_12.out)) k_ hk, Kd.fresh' (Kd.R_lt (by (with_reducible repeat (first | apply Kd.R_alloc | apply Kd.R_drewN | apply Kd.R_drew)); exact HO248.out)) k_ hk⟩)); (case aO => exact (by (with_reducible repeat (first | apply Kd.R_alloc | apply Kd.R_drewN | apply Kd.R_drew)); exact Kd.R_mono HO251.out (fun _ hk => ⟨hk.1.1.2, ⟨hk.1.2, hk.2⟩⟩))); (case aS => exact (below_size (by repeat (first | (with_reducible first | exact HB.out | apply below_alloc | apply pw_below_drewN | apply below_drew1) | exact HB.out)))); (case aL => have := LMc45.out; omega); intro v253 w60 ho hb hg hat; rw [← Ny252.out] at ho; have n0_ := Aside0.mk (Kd.R_after (ok := (fun k_ => some k_ ≠ (.slice Ao56 x12_2.length co56 : Value).ownBlock ∧ some k_ ≠ (v247 : Value).ownBlock)) (by (with_reducible repeat (first | apply Kd.R_alloc | apply Kd.R_drewN | apply Kd.R_drew)); exact HO_7.out) hg hat); have n1_ := Aside0.mk (Kd.R_after (ok := (fun k_ => some k_ ≠ (.slice Ao15 t227.length co15 : Value).ownBlock ∧ some k_ ≠ (v247 : Value).ownBlock)) (by (with_reducible repeat (first | apply Kd.R_alloc | apply Kd.R_drewN | apply Kd.R_drew)); exact HO_12.out) hg hat); have n2_ := Aside0.mk (Kd.R_after (ok := (fun k_ => some k_ ≠ (.slice Ao15 t227.length co15 : Value).ownBlock ∧ some k_ ≠ (.slice Ao56 x12_2.length co56 : Value).ownBlock)) (by (with_reducible repeat (first | apply Kd.R_alloc | apply Kd.R_drewN | apply Kd.R_drew)); exact Kd.R_mono HO248.out (fun _ hk => ⟨⟨hk.1.1.2, hk.1.2⟩, hk.2⟩)) hg hat); have n3_ := Aside0.mk (hb); have n4_ := Aside0.mk (ho); clear HO_7; clear HO_12; clear HO248; clear HB; clear HO251; have HO_7 := n0_; have HO_12 := n1_; have HO248 := n2_; have HB := n3_; have HO254 := n4_; clear n0_ n1_ n2_ n3_ n4_; clear ho hb hg hat) | ((with_reducible refine gate_builtin (b := .append) (xs := #[.tmp 115, .tmp 118]) rfl ?_); (try (refine gate_guard (by rfl) ?_; dsimp only)); at_builtin; refine Kd.R_append (Kd.int .u8) (w0 := w) w.heap.size rfl (.tmp 115) (.tmp 118) 23 5 (.int .u8 0) 1 rfl Try.underlying23 info5 rfl (by decide) (by omega) v253 y252 ((a2) % 256) [.int .u8 ((a2) % 256)] (fun k_ => some k_ ≠ (.slice Ao15 t227.length co15 : Value).ownBlock ∧ some k_ ≠ (.slice Ao56 x12_2.length co56 : Value).ownBlock ∧ some k_ ≠ (v247 : Value).ownBlock) (fun _ => False) rfl rfl ?aP (fun _ hk => hk.elim) ?aF ?aO ?aB ?aS ?aL ?_; (case aP => exact rfl); (case aB => exact (by repeat (first | (with_reducible first | exact HB.out | apply below_alloc | apply pw_below_drewN | apply below_drew1) | exact HB.out))); (case aF => exact (fun k_ hk => ⟨Kd.fresh' (Kd.R_lt (by (with_reducible repeat (first | apply Kd.R_alloc | apply Kd.R_drewN | apply Kd.R_drew)); exact HO_7.out)) k_ hk, Kd.fresh' (Kd.R_lt (by (with_reducible repeat (first | apply Kd.R_alloc | apply Kd.R_drewN | apply Kd.R_drew)); exact HO_12.out)) k_ hk, Kd.fresh' (Kd.R_lt (by (with_reducible repeat (first | apply Kd.R_alloc | apply Kd.R_drewN | apply Kd.R_drew)); exact HO248.out)) k_ hk⟩)); (case aO => exact (by (with_reducible repeat (first | apply Kd.R_alloc | apply Kd.R_drewN | apply Kd.R_drew)); exact HO254.out)); (case aS => exact (below_size (by repeat (first | (with_reducible first | exact HB.out | apply below_alloc | apply pw_below_drewN | apply below_drew1) | exact HB.out)))); (case aL => have := LMc46.out; omega); intro v256 w61 ho hb hg hat; rw [← Ny255.out] at ho; have n0_ := Aside0.mk (Kd.R_after (ok := (fun k_ => some k_ ≠ (.slice Ao56 x12_2.length co56 : Value).ownBlock ∧ some k_ ≠ (v247 : Value).ownBlock)) (by (with_reducible repeat (first | apply Kd.R_alloc | apply Kd.R_drewN | apply Kd.R_drew)); exact HO_7.out) hg hat); have n1_ := Aside0.mk (Kd.R_after (ok := (fun k_ => some k_ ≠ (.slice Ao15 t227.length co15 : Value).ownBlock ∧ some k_ ≠ (v247 : Value).ownBlock)) (by (with_reducible repeat (first | apply Kd.R_alloc | apply Kd.R_drewN | apply Kd.R_drew)); exact HO_12.out) hg hat); have n2_ := Aside0.mk (Kd.R_after (ok := (fun k_ => some k_ ≠ (.slice Ao15 t227.length co15 : Value).ownBlock ∧ some k_ ≠ (.slice Ao56 x12_2.length co56 : Value).ownBlock)) (by (with_reducible repeat (first | apply Kd.R_alloc | apply Kd.R_drewN | apply Kd.R_drew)); exact HO248.out) hg hat); have n3_ := Aside0.mk (hb); have n4_ := Aside0.mk (ho); clear HO_7; clear HO_12; clear HO248; clear HB; clear HO254; have HO_7 := n0_; have HO_12 := n1_; have HO248 := n2_; have HB := n3_; have HO257 := n4_; clear n0_ n1_ n2_ n3_ n4_; clear ho hb hg hat; obtain ⟨Ao62, co62, eo62⟩ := Kd.R_slice HO257.out; subst eo62) | ((with_reducible refine gate_callee (f := 12) rfl ?_); refine goesL_ (some 120) rfl rfl Try.func12 (by kernel_rfl) rfl #[.slice Ao62 y255.length co62] rfl (by (try simp only [List.map_toArray, List.map_cons, List.map_nil]); first | done | rfl | (simp only [List.length_drop, List.length_take]; rfl)) ?_; (with_reducible refine (frame_Open.calls _ _ y255 t258 t259 _ ?side1 ?side2 A47.out).mono ?_); (case side1 => repeat (first | exact (Kd.R_reads' HO257.out).2.2 | (with_reducible refine Kd.C_alloc ?_ _) | (with_reducible refine Kd.C_drewN ?_ _) | (with_reducible refine Kd.C_drew ?_))); (case side2 => exact (Kd.R_reads' HO257.out).2.1); rintro e w63 ⟨v260, rfl, ho0, hb⟩; refine ⟨_, rfl, ?_⟩; have n0_ := Aside0.mk (Kd.R_elder' (by (with_reducible repeat (first | apply Kd.R_alloc | apply Kd.R_drewN | apply Kd.R_drew)); exact HO_7.out) (Kd.R_base ho0) hb); have n1_ := Aside0.mk (Kd.R_elder' (by (with_reducible repeat (first | apply Kd.R_alloc | apply Kd.R_drewN | apply Kd.R_drew)); exact HO_12.out) (Kd.R_base ho0) hb); have n2_ := Aside0.mk (Kd.R_elder' (by (with_reducible repeat (first | apply Kd.R_alloc | apply Kd.R_drewN | apply Kd.R_drew)); exact HO248.out) (Kd.R_base ho0) hb); have n3_ := Aside0.mk (Kd.R_elder' (by (with_reducible repeat (first | apply Kd.R_alloc | apply Kd.R_drewN | apply Kd.R_drew)); exact HO257.out) (Kd.R_base ho0) hb); have n4_ := Aside0.mk (Kd.R_lower (Kd.R_new' (Kd.R_new' (Kd.R_new' (Kd.R_new' ho0 (Kd.R_lt (by (with_reducible repeat (first | apply Kd.R_alloc | apply Kd.R_drewN | apply Kd.R_drew)); exact HO_7.out))) (Kd.R_lt (by (with_reducible repeat (first | apply Kd.R_alloc | apply Kd.R_drewN | apply Kd.R_drew)); exact HO_12.out))) (Kd.R_lt (by (with_reducible repeat (first | apply Kd.R_alloc | apply Kd.R_drewN | apply Kd.R_drew)); exact HO248.out))) (Kd.R_lt (by (with_reducible repeat (first | apply Kd.R_alloc | apply Kd.R_drewN | apply Kd.R_drew)); exact HO257.out))) (below_size (by repeat (first | (with_reducible first | exact HB.out | apply below_alloc | apply pw_below_drewN | apply below_drew1) | exact HB.out)))); have n5_ := Aside0.mk (below_step (by repeat (first | (with_reducible first | exact HB.out | apply below_alloc | apply pw_below_drewN | apply below_drew1) | exact HB.out)) hb); clear HO_7; clear HO_12; clear HO248; clear HO257; clear HB; have HO_7 := n0_; have HO_12 := n1_; have HO248 := n2_; have HO257 := n3_; have HO261 := n4_; have HB := n5_; clear n0_ n1_ n2_ n3_ n4_ n5_; (try clear hb); (try clear hb2); (try clear hk); (try clear hi); (try clear ho0); have q64 : ((ji48) : Int) ≤ ((t227.length : Int) : Int) := of_decide_eq_true (by first | (with_reducible assumption) | assumption); obtain ⟨i064, hi064, _, hsz64, _⟩ := info_parts info5; have hroom64 : t227.length ≤ co15 := (Kd.R_reads' HO_7.out).2.1; have hC64 : Kd.C (Kd.int .u8) _ Ao15 t227.length t227 := (Kd.R_reads' HO_7.out).2.2; have hcut64 := cut_to (P := Try.prog) 23 5 .i64 Try.underlying23 hi064 Ao15 t227.length co15 (ji48) (of_decide_eq_true (by first | (with_reducible assumption) | assumption)) q64 hroom64; have hr64 := Kd.C_take (m := ((ji48) : Int).toNat) hC64 (by omega); have hy64 : y262.length = ((ji48) : Int).toNat := (by rw [Ny262.out, List.length_take]; omega); rw [← Ny262.out] at hr64; rw [← hy64] at hcut64; have HR265 := Aside0.mk hr64; have HC265 := Aside0.mk (show y262.length ≤ co15 from by omega); clear hr64 hC64 hroom64 hi064 hsz64; have KY64 := Aside0.mk hy64; clear hy64; have KL64 := Aside0.mk (show ((ji48) : Int).toNat ≤ t227.length from by omega); replace q64 := eq_true q64) | ((with_reducible refine gate_callee (f := 12) rfl ?_); refine goesL_ (some 129) rfl rfl Try.func12 (by kernel_rfl) rfl #[.slice Ao15 y262.length co15] rfl (by (try simp only [List.map_toArray, List.map_cons, List.map_nil]); first | done | rfl | (simp only [List.length_drop, List.length_take]; rfl)) ?_; (with_reducible refine (frame_Open.calls _ _ y262 t266 t267 _ ?side1 ?side2 A51.out).mono ?_); (case side1 => repeat (first | exact (by repeat (first | (with_reducible exact HR265.out) | (with_reducible refine Kd.C_alloc ?_ _) | (with_reducible refine Kd.C_drewN ?_ _) | (with_reducible refine Kd.C_drew ?_) | exact HR265.out)) | (with_reducible refine Kd.C_alloc ?_ _) | (with_reducible refine Kd.C_drewN ?_ _) | (with_reducible refine Kd.C_drew ?_))); (case side2 => exact HC265.out); rintro e w65 ⟨v268, rfl, ho0, hb⟩; refine ⟨_, rfl, ?_⟩; have n0_ := Aside0.mk (Kd.R_elder' (by (with_reducible repeat (first | apply Kd.R_alloc | apply Kd.R_drewN | apply Kd.R_drew)); exact HO_7.out) (Kd.R_base ho0) hb); have n1_ := Aside0.mk (Kd.R_elder' (by (with_reducible repeat (first | apply Kd.R_alloc | apply Kd.R_drewN | apply Kd.R_drew)); exact HO_12.out) (Kd.R_base ho0) hb); have n2_ := Aside0.mk (Kd.R_elder' (by (with_reducible repeat (first | apply Kd.R_alloc | apply Kd.R_drewN | apply Kd.R_drew)); exact HO248.out) (Kd.R_base ho0) hb); have n3_ := Aside0.mk (Kd.R_elder' (by (with_reducible repeat (first | apply Kd.R_alloc | apply Kd.R_drewN | apply Kd.R_drew)); exact HO257.out) (Kd.R_base ho0) hb); have n4_ := Aside0.mk (Kd.R_elder' (by (with_reducible repeat (first | apply Kd.R_alloc | apply Kd.R_drewN | apply Kd.R_drew)); exact HO261.out) (Kd.R_base ho0) hb); have n5_ := Aside0.mk (Kd.R_lower (Kd.R_new' (Kd.R_new' (Kd.R_new' (Kd.R_new' (Kd.R_new' ho0 (Kd.R_lt (by (with_reducible repeat (first | apply Kd.R_alloc | apply Kd.R_drewN | apply Kd.R_drew)); exact HO_7.out))) (Kd.R_lt (by (with_reducible repeat (first | apply Kd.R_alloc | apply Kd.R_drewN | apply Kd.R_drew)); exact HO_12.out))) (Kd.R_lt (by (with_reducible repeat (first | apply Kd.R_alloc | apply Kd.R_drewN | apply Kd.R_drew)); exact HO248.out))) (Kd.R_lt (by (with_reducible repeat (first | apply Kd.R_alloc | apply Kd.R_drewN | apply Kd.R_drew)); exact HO257.out))) (Kd.R_lt (by (with_reducible repeat (first | apply Kd.R_alloc | apply Kd.R_drewN | apply Kd.R_drew)); exact HO261.out))) (below_size (by repeat (first | (with_reducible first | exact HB.out | apply below_alloc | apply pw_below_drewN | apply below_drew1) | exact HB.out)))); have n6_ := Aside0.mk (Kd.C_below (by repeat (first | (with_reducible exact HR265.out) | (with_reducible refine Kd.C_alloc ?_ _) | (with_reducible refine Kd.C_drewN ?_ _) | (with_reducible refine Kd.C_drew ?_) | exact HR265.out)) hb); have n7_ := Aside0.mk (below_step (by repeat (first | (with_reducible first | exact HB.out | apply below_alloc | apply pw_below_drewN | apply below_drew1) | exact HB.out)) hb); clear HO_7; clear HO_12; clear HO248; clear HO257; clear HO261; clear HR265; clear HB; have HO_7 := n0_; have HO_12 := n1_; have HO248 := n2_; have HO257 := n3_; have HO261 := n4_; have HO269 := n5_; have HR265 := n6_; have HB := n7_; clear n0_ n1_ n2_ n3_ n4_ n5_ n6_ n7_; (try clear hb); (try clear hb2); (try clear hk); (try clear hi); (try clear ho0)) | (go_at_call 9; (with_reducible refine (garlandlaw05_wakes.calls  t270 _ A55.out).mono ?_); rintro e w66 ⟨rfl, hb⟩; have n0_ := Aside0.mk (Kd.R_below (by (with_reducible repeat (first | apply Kd.R_alloc | apply Kd.R_drewN | apply Kd.R_drew)); exact HO_7.out) hb); have n1_ := Aside0.mk (Kd.R_below (by (with_reducible repeat (first | apply Kd.R_alloc | apply Kd.R_drewN | apply Kd.R_drew)); exact HO_12.out) hb); have n2_ := Aside0.mk (Kd.R_below (by (with_reducible repeat (first | apply Kd.R_alloc | apply Kd.R_drewN | apply Kd.R_drew)); exact HO248.out) hb); have n3_ := Aside0.mk (Kd.R_below (by (with_reducible repeat (first | apply Kd.R_alloc | apply Kd.R_drewN | apply Kd.R_drew)); exact HO257.out) hb); have n4_ := Aside0.mk (Kd.R_below (by (with_reducible repeat (first | apply Kd.R_alloc | apply Kd.R_drewN | apply Kd.R_drew)); exact HO261.out) hb); have n5_ := Aside0.mk (Kd.R_below (by (with_reducible repeat (first | apply Kd.R_alloc | apply Kd.R_drewN | apply Kd.R_drew)); exact HO269.out) hb); have n6_ := Aside0.mk (Kd.C_below (by repeat (first | (with_reducible exact HR265.out) | (with_reducible refine Kd.C_alloc ?_ _) | (with_reducible refine Kd.C_drewN ?_ _) | (with_reducible refine Kd.C_drew ?_) | exact HR265.out)) hb); have n7_ := Aside0.mk (below_step (by repeat (first | (with_reducible first | exact HB.out | apply below_alloc | apply pw_below_drewN | apply below_drew1) | exact HB.out)) hb); clear HO_7; clear HO_12; clear HO248; clear HO257; clear HO261; clear HO269; clear HR265; clear HB; have HO_7 := n0_; have HO_12 := n1_; have HO248 := n2_; have HO257 := n3_; have HO261 := n4_; have HO269 := n5_; have HR265 := n6_; have HB := n7_; clear n0_ n1_ n2_ n3_ n4_ n5_ n6_ n7_; (try clear hb); (try clear hb2); (try clear hk); (try clear hi)))
                                  go_ret
                                  exact ⟨by first | rfl | (simp [errW_none, errW_some] <;> rfl) | (simp only [← hji48]; first | rfl | (simp [errW_none, errW_some] <;> rfl)) | (simp [*, errW_none, errW_some] <;> rfl), by repeat (first | (with_reducible first | exact HB.out | apply below_alloc | apply pw_below_drewN | apply below_drew1) | exact HB.out)⟩
                                · rw [if_neg c54] at H
                                  have c54b0 : (t267 == 12) = false := beq_eq_false_iff_ne.mpr c54
                                  have c54b1 : (t267 != 12) = true := bne_iff_ne.mpr c54
                                  by_cases c67 : (t227.length : Int) = 8
                                  · rw [if_pos c67] at H
                                    have c67b0 : ((t227.length : Int) == 8) = true := beq_iff_eq.mpr c67
                                    have c67b1 : ((t227.length : Int) != 8) = false := bne_eq_false_iff_eq.mpr c67
                                    clear c67
                                    by_cases c68 : t267 = 11
                                    · rw [if_pos c68] at H
                                      have c68b0 : (t267 == 11) = true := beq_iff_eq.mpr c68
                                      have c68b1 : (t267 != 11) = false := bne_eq_false_iff_eq.mpr c68
                                      clear c68
                                      replace H := Option.bind_eq_some_iff.mp H
                                      obtain ⟨t271, A690, H⟩ := H
                                      replace H : (some t271) = some r := H
                                      have A69 := Aside0.mk A690
                                      clear A690
                                      obtain rfl := Option.some.inj H
                                      obtain ⟨Ao70, co70, eo70⟩ := Kd.R_slice HO_12.out
                                      subst eo70
                                      go_wp2_with (first | ((with_reducible refine gate_callee (f := 12) rfl ?_); refine goesL_ (some 109) rfl rfl Try.func12 (by kernel_rfl) rfl #[.slice Ao70 x12_2.length co70] rfl (by (try simp only [List.map_toArray, List.map_cons, List.map_nil]); first | done | rfl | (simp only [List.length_drop, List.length_take]; rfl)) ?_; (with_reducible refine (frame_Open.calls _ _ x12_2 t245 t246 _ ?side1 ?side2 A44.out).mono ?_); (case side1 => repeat (first | exact (Kd.R_reads' HO_12.out).2.2 | (with_reducible refine Kd.C_alloc ?_ _) | (with_reducible refine Kd.C_drewN ?_ _) | (with_reducible refine Kd.C_drew ?_))); (case side2 => exact (Kd.R_reads' HO_12.out).2.1); rintro e w71 ⟨v247, rfl, ho0, hb⟩; refine ⟨_, rfl, ?_⟩; have n0_ := Aside0.mk (Kd.R_elder' (by (with_reducible repeat (first | apply Kd.R_alloc | apply Kd.R_drewN | apply Kd.R_drew)); exact HO_7.out) (Kd.R_base ho0) hb); have n1_ := Aside0.mk (Kd.R_elder' (by (with_reducible repeat (first | apply Kd.R_alloc | apply Kd.R_drewN | apply Kd.R_drew)); exact HO_12.out) (Kd.R_base ho0) hb); have n2_ := Aside0.mk (Kd.R_lower (Kd.R_new' (Kd.R_new' ho0 (Kd.R_lt (by (with_reducible repeat (first | apply Kd.R_alloc | apply Kd.R_drewN | apply Kd.R_drew)); exact HO_7.out))) (Kd.R_lt (by (with_reducible repeat (first | apply Kd.R_alloc | apply Kd.R_drewN | apply Kd.R_drew)); exact HO_12.out))) (below_size (by repeat (first | (with_reducible first | exact HB.out | apply below_alloc | apply pw_below_drewN | apply below_drew1) | exact HB.out)))); have n3_ := Aside0.mk (below_step (by repeat (first | (with_reducible first | exact HB.out | apply below_alloc | apply pw_below_drewN | apply below_drew1) | exact HB.out)) hb); clear HO_7; clear HO_12; clear HB; have HO_7 := n0_; have HO_12 := n1_; have HO248 := n2_; have HB := n3_; clear n0_ n1_ n2_ n3_; (try clear hb); (try clear hb2); (try clear hk); (try clear hi); (try clear ho0)) | ((with_reducible refine gate_dst (N := 113) rfl ?_); (try (refine gate_guard (by rfl) ?_; dsimp only)); refine Kd.R_lit (Kd.int .u8) _ 5 ?hg (N := 113) ?hd (xs := ([] : List Int)) (inner := []) (ok := fun _ => True) (okp := fun _ => True) ?hr ?hp (fun _ hk => hk) trivial (Below.refl _ _) (Nat.le_refl _) (by simp) ?_; (case hd => rfl); (case hg => rfl); (case hr => first | (go_simp; done) | (go_simp; rfl)); (case hp => exact (Reps.none _ _)); intro v250 w72 ho73 hb hg_ hnew_; clear hg_ hnew_; (first | rw [← Ny249.out] at ho73 | (simp only [Int.reduceToNat] at ho73; rw [← Ny249.out] at ho73)); have n0_ := Aside0.mk (Kd.R_elder' (by (with_reducible repeat (first | apply Kd.R_alloc | apply Kd.R_drewN | apply Kd.R_drew)); exact HO_7.out) (Kd.R_base ho73) hb); have n1_ := Aside0.mk (Kd.R_elder' (by (with_reducible repeat (first | apply Kd.R_alloc | apply Kd.R_drewN | apply Kd.R_drew)); exact HO_12.out) (Kd.R_base ho73) hb); have n2_ := Aside0.mk (Kd.R_elder' (by (with_reducible repeat (first | apply Kd.R_alloc | apply Kd.R_drewN | apply Kd.R_drew)); exact HO248.out) (Kd.R_base ho73) hb); have n3_ := Aside0.mk (Kd.R_lower (Kd.R_new' (Kd.R_new' (Kd.R_new' ho73 (Kd.R_lt (by (with_reducible repeat (first | apply Kd.R_alloc | apply Kd.R_drewN | apply Kd.R_drew)); exact HO_7.out))) (Kd.R_lt (by (with_reducible repeat (first | apply Kd.R_alloc | apply Kd.R_drewN | apply Kd.R_drew)); exact HO_12.out))) (Kd.R_lt (by (with_reducible repeat (first | apply Kd.R_alloc | apply Kd.R_drewN | apply Kd.R_drew)); exact HO248.out))) (below_size (by repeat (first | (with_reducible first | exact HB.out | apply below_alloc | apply pw_below_drewN | apply below_drew1) | exact HB.out)))); have n4_ := Aside0.mk (below_step (by repeat (first | (with_reducible first | exact HB.out | apply below_alloc | apply pw_below_drewN | apply below_drew1) | exact HB.out)) hb); clear HO_7; clear HO_12; clear HO248; clear HB; have HO_7 := n0_; have HO_12 := n1_; have HO248 := n2_; have HO251 := n3_; have HB := n4_; clear n0_ n1_ n2_ n3_ n4_; clear hb ho73) | ((with_reducible refine gate_builtin (b := .append) (xs := #[.tmp 113, .tmp 114]) rfl ?_); (try (refine gate_guard (by rfl) ?_; dsimp only)); at_builtin; refine Kd.R_append_rows (Kd.int .u8) (w0 := w) w.heap.size rfl (.tmp 113) (.tmp 114) 23 5 (.int .u8 0) 1 rfl Try.underlying23 info5 rfl (by decide) (by omega) v250 y249 t227 _ _ _ (fun k_ => some k_ ≠ (.slice Ao15 t227.length co15 : Value).ownBlock ∧ some k_ ≠ (.slice Ao70 x12_2.length co70 : Value).ownBlock ∧ some k_ ≠ (v247 : Value).ownBlock) (fun _ => False) rfl rfl ?aO ?aR (fun _ _ h => h) (fun _ h => h.elim) ?aF ?aB ?aS ?aL ?_; (case aR => repeat (first | exact (Kd.R_reads' HO_7.out).2.2 | (with_reducible refine Kd.C_alloc ?_ _) | (with_reducible refine Kd.C_drewN ?_ _) | (with_reducible refine Kd.C_drew ?_))); (case aB => exact (by repeat (first | (with_reducible first | exact HB.out | apply below_alloc | apply pw_below_drewN | apply below_drew1) | exact HB.out))); (case aF => exact (fun k_ hk => ⟨Kd.fresh' (Kd.R_lt (by (with_reducible repeat (first | apply Kd.R_alloc | apply Kd.R_drewN | apply Kd.R_drew)); exact HO_7.out)) k_ hk, Kd.fresh' (Kd.R_lt (by (with_reducible repeat (first | apply Kd.R_alloc | apply Kd.R_drewN | apply Kd.R_drew)); exact HO_12.out)) k_ hk, Kd.fresh' (Kd.R_lt (by (with_reducible repeat (first | apply Kd.R_alloc | apply Kd.R_drewN | apply Kd.R_drew)); exact HO248.out)) k_ hk⟩)); (case aO => exact (by (with_reducible repeat (first | apply Kd.R_alloc | apply Kd.R_drewN | apply Kd.R_drew)); exact Kd.R_mono HO251.out (fun _ hk => ⟨hk.1.1.2, ⟨hk.1.2, hk.2⟩⟩))); (case aS => exact (below_size (by repeat (first | (with_reducible first | exact HB.out | apply below_alloc | apply pw_below_drewN | apply below_drew1) | exact HB.out)))); (case aL => have := LMc45.out; omega); intro v253 w74 ho hb hg hat; rw [← Ny252.out] at ho; have n0_ := Aside0.mk (Kd.R_after (ok := (fun k_ => some k_ ≠ (.slice Ao70 x12_2.length co70 : Value).ownBlock ∧ some k_ ≠ (v247 : Value).ownBlock)) (by (with_reducible repeat (first | apply Kd.R_alloc | apply Kd.R_drewN | apply Kd.R_drew)); exact HO_7.out) hg hat); have n1_ := Aside0.mk (Kd.R_after (ok := (fun k_ => some k_ ≠ (.slice Ao15 t227.length co15 : Value).ownBlock ∧ some k_ ≠ (v247 : Value).ownBlock)) (by (with_reducible repeat (first | apply Kd.R_alloc | apply Kd.R_drewN | apply Kd.R_drew)); exact HO_12.out) hg hat); have n2_ := Aside0.mk (Kd.R_after (ok := (fun k_ => some k_ ≠ (.slice Ao15 t227.length co15 : Value).ownBlock ∧ some k_ ≠ (.slice Ao70 x12_2.length co70 : Value).ownBlock)) (by (with_reducible repeat (first | apply Kd.R_alloc | apply Kd.R_drewN | apply Kd.R_drew)); exact Kd.R_mono HO248.out (fun _ hk => ⟨⟨hk.1.1.2, hk.1.2⟩, hk.2⟩)) hg hat); have n3_ := Aside0.mk (hb); have n4_ := Aside0.mk (ho); clear HO_7; clear HO_12; clear HO248; clear HB; clear HO251; have HO_7 := n0_; have HO_12 := n1_; have HO248 := n2_; have HB := n3_; have HO254 := n4_; clear n0_ n1_ n2_ n3_ n4_; clear ho hb hg hat) | ((with_reducible refine gate_builtin (b := .append) (xs := #[.tmp 115, .tmp 118]) rfl ?_); (try (refine gate_guard (by rfl) ?_; dsimp only)); at_builtin; refine Kd.R_append (Kd.int .u8) (w0 := w) w.heap.size rfl (.tmp 115) (.tmp 118) 23 5 (.int .u8 0) 1 rfl Try.underlying23 info5 rfl (by decide) (by omega) v253 y252 ((a2) % 256) [.int .u8 ((a2) % 256)] (fun k_ => some k_ ≠ (.slice Ao15 t227.length co15 : Value).ownBlock ∧ some k_ ≠ (.slice Ao70 x12_2.length co70 : Value).ownBlock ∧ some k_ ≠ (v247 : Value).ownBlock) (fun _ => False) rfl rfl ?aP (fun _ hk => hk.elim) ?aF ?aO ?aB ?aS ?aL ?_; (case aP => exact rfl); (case aB => exact (by repeat (first | (with_reducible first | exact HB.out | apply below_alloc | apply pw_below_drewN | apply below_drew1) | exact HB.out))); (case aF => exact (fun k_ hk => ⟨Kd.fresh' (Kd.R_lt (by (with_reducible repeat (first | apply Kd.R_alloc | apply Kd.R_drewN | apply Kd.R_drew)); exact HO_7.out)) k_ hk, Kd.fresh' (Kd.R_lt (by (with_reducible repeat (first | apply Kd.R_alloc | apply Kd.R_drewN | apply Kd.R_drew)); exact HO_12.out)) k_ hk, Kd.fresh' (Kd.R_lt (by (with_reducible repeat (first | apply Kd.R_alloc | apply Kd.R_drewN | apply Kd.R_drew)); exact HO248.out)) k_ hk⟩)); (case aO => exact (by (with_reducible repeat (first | apply Kd.R_alloc | apply Kd.R_drewN | apply Kd.R_drew)); exact HO254.out)); (case aS => exact (below_size (by repeat (first | (with_reducible first | exact HB.out | apply below_alloc | apply pw_below_drewN | apply below_drew1) | exact HB.out)))); (case aL => have := LMc46.out; omega); intro v256 w75 ho hb hg hat; rw [← Ny255.out] at ho; have n0_ := Aside0.mk (Kd.R_after (ok := (fun k_ => some k_ ≠ (.slice Ao70 x12_2.length co70 : Value).ownBlock ∧ some k_ ≠ (v247 : Value).ownBlock)) (by (with_reducible repeat (first | apply Kd.R_alloc | apply Kd.R_drewN | apply Kd.R_drew)); exact HO_7.out) hg hat); have n1_ := Aside0.mk (Kd.R_after (ok := (fun k_ => some k_ ≠ (.slice Ao15 t227.length co15 : Value).ownBlock ∧ some k_ ≠ (v247 : Value).ownBlock)) (by (with_reducible repeat (first | apply Kd.R_alloc | apply Kd.R_drewN | apply Kd.R_drew)); exact HO_12.out) hg hat); have n2_ := Aside0.mk (Kd.R_after (ok := (fun k_ => some k_ ≠ (.slice Ao15 t227.length co15 : Value).ownBlock ∧ some k_ ≠ (.slice Ao70 x12_2.length co70 : Value).ownBlock)) (by (with_reducible repeat (first | apply Kd.R_alloc | apply Kd.R_drewN | apply Kd.R_drew)); exact HO248.out) hg hat); have n3_ := Aside0.mk (hb); have n4_ := Aside0.mk (ho); clear HO_7; clear HO_12; clear HO248; clear HB; clear HO254; have HO_7 := n0_; have HO_12 := n1_; have HO248 := n2_; have HB := n3_; have HO257 := n4_; clear n0_ n1_ n2_ n3_ n4_; clear ho hb hg hat; obtain ⟨Ao76, co76, eo76⟩ := Kd.R_slice HO257.out; subst eo76) | ((with_reducible refine gate_callee (f := 12) rfl ?_); refine goesL_ (some 120) rfl rfl Try.func12 (by kernel_rfl) rfl #[.slice Ao76 y255.length co76] rfl (by (try simp only [List.map_toArray, List.map_cons, List.map_nil]); first | done | rfl | (simp only [List.length_drop, List.length_take]; rfl)) ?_; (with_reducible refine (frame_Open.calls _ _ y255 t258 t259 _ ?side1 ?side2 A47.out).mono ?_); (case side1 => repeat (first | exact (Kd.R_reads' HO257.out).2.2 | (with_reducible refine Kd.C_alloc ?_ _) | (with_reducible refine Kd.C_drewN ?_ _) | (with_reducible refine Kd.C_drew ?_))); (case side2 => exact (Kd.R_reads' HO257.out).2.1); rintro e w77 ⟨v260, rfl, ho0, hb⟩; refine ⟨_, rfl, ?_⟩; have n0_ := Aside0.mk (Kd.R_elder' (by (with_reducible repeat (first | apply Kd.R_alloc | apply Kd.R_drewN | apply Kd.R_drew)); exact HO_7.out) (Kd.R_base ho0) hb); have n1_ := Aside0.mk (Kd.R_elder' (by (with_reducible repeat (first | apply Kd.R_alloc | apply Kd.R_drewN | apply Kd.R_drew)); exact HO_12.out) (Kd.R_base ho0) hb); have n2_ := Aside0.mk (Kd.R_elder' (by (with_reducible repeat (first | apply Kd.R_alloc | apply Kd.R_drewN | apply Kd.R_drew)); exact HO248.out) (Kd.R_base ho0) hb); have n3_ := Aside0.mk (Kd.R_elder' (by (with_reducible repeat (first | apply Kd.R_alloc | apply Kd.R_drewN | apply Kd.R_drew)); exact HO257.out) (Kd.R_base ho0) hb); have n4_ := Aside0.mk (Kd.R_lower (Kd.R_new' (Kd.R_new' (Kd.R_new' (Kd.R_new' ho0 (Kd.R_lt (by (with_reducible repeat (first | apply Kd.R_alloc | apply Kd.R_drewN | apply Kd.R_drew)); exact HO_7.out))) (Kd.R_lt (by (with_reducible repeat (first | apply Kd.R_alloc | apply Kd.R_drewN | apply Kd.R_drew)); exact HO_12.out))) (Kd.R_lt (by (with_reducible repeat (first | apply Kd.R_alloc | apply Kd.R_drewN | apply Kd.R_drew)); exact HO248.out))) (Kd.R_lt (by (with_reducible repeat (first | apply Kd.R_alloc | apply Kd.R_drewN | apply Kd.R_drew)); exact HO257.out))) (below_size (by repeat (first | (with_reducible first | exact HB.out | apply below_alloc | apply pw_below_drewN | apply below_drew1) | exact HB.out)))); have n5_ := Aside0.mk (below_step (by repeat (first | (with_reducible first | exact HB.out | apply below_alloc | apply pw_below_drewN | apply below_drew1) | exact HB.out)) hb); clear HO_7; clear HO_12; clear HO248; clear HO257; clear HB; have HO_7 := n0_; have HO_12 := n1_; have HO248 := n2_; have HO257 := n3_; have HO261 := n4_; have HB := n5_; clear n0_ n1_ n2_ n3_ n4_ n5_; (try clear hb); (try clear hb2); (try clear hk); (try clear hi); (try clear ho0); have q78 : ((ji48) : Int) ≤ ((t227.length : Int) : Int) := of_decide_eq_true (by first | (with_reducible assumption) | assumption); obtain ⟨i078, hi078, _, hsz78, _⟩ := info_parts info5; have hroom78 : t227.length ≤ co15 := (Kd.R_reads' HO_7.out).2.1; have hC78 : Kd.C (Kd.int .u8) _ Ao15 t227.length t227 := (Kd.R_reads' HO_7.out).2.2; have hcut78 := cut_to (P := Try.prog) 23 5 .i64 Try.underlying23 hi078 Ao15 t227.length co15 (ji48) (of_decide_eq_true (by first | (with_reducible assumption) | assumption)) q78 hroom78; have hr78 := Kd.C_take (m := ((ji48) : Int).toNat) hC78 (by omega); have hy78 : y262.length = ((ji48) : Int).toNat := (by rw [Ny262.out, List.length_take]; omega); rw [← Ny262.out] at hr78; rw [← hy78] at hcut78; have HR265 := Aside0.mk hr78; have HC265 := Aside0.mk (show y262.length ≤ co15 from by omega); clear hr78 hC78 hroom78 hi078 hsz78; have KY78 := Aside0.mk hy78; clear hy78; have KL78 := Aside0.mk (show ((ji48) : Int).toNat ≤ t227.length from by omega); replace q78 := eq_true q78) | ((with_reducible refine gate_callee (f := 12) rfl ?_); refine goesL_ (some 129) rfl rfl Try.func12 (by kernel_rfl) rfl #[.slice Ao15 y262.length co15] rfl (by (try simp only [List.map_toArray, List.map_cons, List.map_nil]); first | done | rfl | (simp only [List.length_drop, List.length_take]; rfl)) ?_; (with_reducible refine (frame_Open.calls _ _ y262 t266 t267 _ ?side1 ?side2 A51.out).mono ?_); (case side1 => repeat (first | exact (by repeat (first | (with_reducible exact HR265.out) | (with_reducible refine Kd.C_alloc ?_ _) | (with_reducible refine Kd.C_drewN ?_ _) | (with_reducible refine Kd.C_drew ?_) | exact HR265.out)) | (with_reducible refine Kd.C_alloc ?_ _) | (with_reducible refine Kd.C_drewN ?_ _) | (with_reducible refine Kd.C_drew ?_))); (case side2 => exact HC265.out); rintro e w79 ⟨v268, rfl, ho0, hb⟩; refine ⟨_, rfl, ?_⟩; have n0_ := Aside0.mk (Kd.R_elder' (by (with_reducible repeat (first | apply Kd.R_alloc | apply Kd.R_drewN | apply Kd.R_drew)); exact HO_7.out) (Kd.R_base ho0) hb); have n1_ := Aside0.mk (Kd.R_elder' (by (with_reducible repeat (first | apply Kd.R_alloc | apply Kd.R_drewN | apply Kd.R_drew)); exact HO_12.out) (Kd.R_base ho0) hb); have n2_ := Aside0.mk (Kd.R_elder' (by (with_reducible repeat (first | apply Kd.R_alloc | apply Kd.R_drewN | apply Kd.R_drew)); exact HO248.out) (Kd.R_base ho0) hb); have n3_ := Aside0.mk (Kd.R_elder' (by (with_reducible repeat (first | apply Kd.R_alloc | apply Kd.R_drewN | apply Kd.R_drew)); exact HO257.out) (Kd.R_base ho0) hb); have n4_ := Aside0.mk (Kd.R_elder' (by (with_reducible repeat (first | apply Kd.R_alloc | apply Kd.R_drewN | apply Kd.R_drew)); exact HO261.out) (Kd.R_base ho0) hb); have n5_ := Aside0.mk (Kd.R_lower (Kd.R_new' (Kd.R_new' (Kd.R_new' (Kd.R_new' (Kd.R_new' ho0 (Kd.R_lt (by (with_reducible repeat (first | apply Kd.R_alloc | apply Kd.R_drewN | apply Kd.R_drew)); exact HO_7.out))) (Kd.R_lt (by (with_reducible repeat (first | apply Kd.R_alloc | apply Kd.R_drewN | apply Kd.R_drew)); exact HO_12.out))) (Kd.R_lt (by (with_reducible repeat (first | apply Kd.R_alloc | apply Kd.R_drewN | apply Kd.R_drew)); exact HO248.out))) (Kd.R_lt (by (with_reducible repeat (first | apply Kd.R_alloc | apply Kd.R_drewN | apply Kd.R_drew)); exact HO257.out))) (Kd.R_lt (by (with_reducible repeat (first | apply Kd.R_alloc | apply Kd.R_drewN | apply Kd.R_drew)); exact HO261.out))) (below_size (by repeat (first | (with_reducible first | exact HB.out | apply below_alloc | apply pw_below_drewN | apply below_drew1) | exact HB.out)))); have n6_ := Aside0.mk (Kd.C_below (by repeat (first | (with_reducible exact HR265.out) | (with_reducible refine Kd.C_alloc ?_ _) | (with_reducible refine Kd.C_drewN ?_ _) | (with_reducible refine Kd.C_drew ?_) | exact HR265.out)) hb); have n7_ := Aside0.mk (below_step (by repeat (first | (with_reducible first | exact HB.out | apply below_alloc | apply pw_below_drewN | apply below_drew1) | exact HB.out)) hb); clear HO_7; clear HO_12; clear HO248; clear HO257; clear HO261; clear HR265; clear HB; have HO_7 := n0_; have HO_12 := n1_; have HO248 := n2_; have HO257 := n3_; have HO261 := n4_; have HO269 := n5_; have HR265 := n6_; have HB := n7_; clear n0_ n1_ n2_ n3_ n4_ n5_ n6_ n7_; (try clear hb); (try clear hb2); (try clear hk); (try clear hi); (try clear ho0)) | (go_at_call 9; (with_reducible refine (garlandlaw05_wakes.calls  t271 _ A69.out).mono ?_); rintro e w80 ⟨rfl, hb⟩; have n0_ := Aside0.mk (Kd.R_below (by (with_reducible repeat (first | apply Kd.R_alloc | apply Kd.R_drewN | apply Kd.R_drew)); exact HO_7.out) hb); have n1_ := Aside0.mk (Kd.R_below (by (with_reducible repeat (first | apply Kd.R_alloc | apply Kd.R_drewN | apply Kd.R_drew)); exact HO_12.out) hb); have n2_ := Aside0.mk (Kd.R_below (by (with_reducible repeat (first | apply Kd.R_alloc | apply Kd.R_drewN | apply Kd.R_drew)); exact HO248.out) hb); have n3_ := Aside0.mk (Kd.R_below (by (with_reducible repeat (first | apply Kd.R_alloc | apply Kd.R_drewN | apply Kd.R_drew)); exact HO257.out) hb); have n4_ := Aside0.mk (Kd.R_below (by (with_reducible repeat (first | apply Kd.R_alloc | apply Kd.R_drewN | apply Kd.R_drew)); exact HO261.out) hb); have n5_ := Aside0.mk (Kd.R_below (by (with_reducible repeat (first | apply Kd.R_alloc | apply Kd.R_drewN | apply Kd.R_drew)); exact HO269.out) hb); have n6_ := Aside0.mk (Kd.C_below (by repeat (first | (with_reducible exact HR265.out) | (with_reducible refine Kd.C_alloc ?_ _) | (with_reducible refine Kd.C_drewN ?_ _) | (with_reducible refine Kd.C_drew ?_) | exact HR265.out)) hb); have n7_ := Aside0.mk (below_step (by repeat (first | (with_reducible first | exact HB.out | apply below_alloc | apply pw_below_drewN | apply below_drew1) | exact HB.out)) hb); clear HO_7; clear HO_12; clear HO248; clear HO257; clear HO261; clear HO269; clear HR265; clear HB; have HO_7 := n0_; have HO_12 := n1_; have HO248 := n2_; have HO257 := n3_; have HO261 := n4_; have HO269 := n5_; have HR265 := n6_; have HB := n7_; clear n0_ n1_ n2_ n3_ n4_ n5_ n6_ n7_; (try clear hb); (try clear hb2); (try clear hk); (try clear hi)))
                                      go_ret
                                      exact ⟨by first | rfl | (simp [errW_none, errW_some] <;> rfl) | (simp only [← hji48]; first | rfl | (simp [errW_none, errW_some] <;> rfl)) | (simp [*, errW_none, errW_some] <;> rfl), by repeat (first | (with_reducible first | exact HB.out | apply below_alloc | apply pw_below_drewN | apply below_drew1) | exact HB.out)⟩
                                    · rw [if_neg c68] at H
                                      exact absurd H (by simp)
                                  · rw [if_neg c67] at H
                                    exact absurd H (by simp)
                              · rw [if_neg c53] at H
                                exact absurd H (by simp)
                            · rw [if_neg c52] at H
                              exact absurd H (by simp)
                          · rw [if_neg c50] at H
                            exact absurd H (by simp)
                        · rw [if_neg c49] at H
                          exact absurd H (by simp)
                      · rw [if_neg c46] at H
                        exact absurd H (by simp)
                    · rw [if_neg c45] at H
                      exact absurd H (by simp)
            · rw [if_neg c25] at H
              exact absurd H (by simp)

/-- THE ONE PURE STATEMENT of garlandlaw05_FrameBurst: yours. -/
def garlandlaw05_FrameBurst.Pure : Prop := ∀ (l0 : List Int) (a1 : Int) (a2 : Int), l0.length ≤ maxLen → l0.length * 1 ≤ 140737488351232 → (∀ x ∈ l0, (Lit.int .u8 x).wf = true) → (Lit.int .i64 a1).wf = true → (Lit.int .u32 a2).wf = true → ∃ k, garlandlaw05_FrameBurst.f k l0 a1 a2 = some true
theorem garlandlaw05_FrameBurst.walk (P : garlandlaw05_FrameBurst.Pure) (a0 : Option Addr) (len0 cap0 : Nat) (z0 : List Int) (a1 : Int) (a2 : Int) (w : World) (w0 : (a0 = none ∧ len0 = 0 ∧ cap0 = 0 ∧ z0 = []) ∨ ∃ x, a0 = some x ∧ len0 ≤ cap0 ∧ cap0 ≤ maxLen ∧ z0.length = cap0 ∧ (∀ i, i < z0.length → w.cell? (x.add i) = some (.int .u8 (z0.getD i 0))) ∧ ∀ n ∈ z0, (Lit.int .u8 n).wf = true) (y0 : len0 * 1 ≤ 140737488351232) (w1 : (Lit.int .i64 a1).wf = true) (w2 : (Lit.int .u32 a2).wf = true) :
    Calls Try.prog 4 #[.slice a0 len0 cap0, .int .i64 a1, .int .u32 a2] w fun e w' => e = .returned (.bool true) ∧ Below w.heap.size w w' := by
  obtain ⟨l0, rfl, hr0, hm0, hw0, hc0⟩ := ReadsInt.ofRowC w0
  obtain ⟨k, h⟩ := P l0 a1 a2 hm0 y0 hw0 w1 w2
  refine (garlandlaw05_FrameBurst.calls k _ _ l0 a1 a2 true w (Kd.C_of_reads (d := (0 : Int)) (h1 := fun _ => rfl) hr0) hc0 h).mono ?_
  rintro e w' ⟨rfl, hd⟩
  exact ⟨rfl, hd⟩

end Go.Proofs.Ytnehegnnpfdfbaa.G
