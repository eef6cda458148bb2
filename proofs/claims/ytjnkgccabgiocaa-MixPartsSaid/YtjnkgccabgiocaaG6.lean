/- What calls of the program's functions answer: contracts, printed by this session's program (wip/tools/gprint.py) or told by hand. -/
import Derived.Test.YtjnkgccabgiocaaG0
import Derived.Test.YtjnkgccabgiocaaG1
import Derived.Test.YtjnkgccabgiocaaG2
import Derived.Test.YtjnkgccabgiocaaG3
import Derived.Test.YtjnkgccabgiocaaG4
namespace Go.Proofs.Ytjnkgccabgiocaa.G
open Go.RowKit Go.Proofs.YtjnkgccabgiocaaW.PrintWords Go.Proofs.YtjnkgccabgiocaaW.PrintLast Go.Proofs.YtjnkgccabgiocaaW.PrintMore
attribute [local go_sem] max2_int min2_int max_two min_two max_three min_three max_four min_four   -- for this text's walks alone
set_option linter.unusedVariables false
set_option linter.unusedSimpArgs false

/-! ### garlandlaw04_MixParts: function 6 -/
mutual
def garlandlaw04_MixParts.j0 : Nat → ByteArray → ByteArray → List ByteArray → Bool → Option (Bool)
  | 0, _, _, _, _ => none
  | k + 1, x0, x1, x2, x26 => if x26 = true then ((garlandlaw04_wakes.f k).bind fun t174 => (some t174)) else (garlandlaw04_MixParts.l0 k x0 x1 x2 true 0)
def garlandlaw04_MixParts.l0 : Nat → ByteArray → ByteArray → List ByteArray → Bool → Int → Option (Bool)
  | 0, _, _, _, _, _ => none
  | k + 1, x0, x1, x2, x7, x8 => if x8 < (x2.length : Int) then (if 0 ≤ x8 then (if ((rdOf ByteArray.empty x2 x8).size : Int) > 100 then ((garlandlaw04_wakes.f k).bind fun t176 => (some t176)) else (if x7 = true then (if ((rdOf ByteArray.empty x2 x8).size : Int) ≥ 1 then (garlandlaw04_MixParts.l0 k x0 x1 x2 (decide (((rdOf ByteArray.empty x2 x8).size : Int) ≤ 20)) (wrap64 (x8 + 1))) else (garlandlaw04_MixParts.l0 k x0 x1 x2 false (wrap64 (x8 + 1)))) else (garlandlaw04_MixParts.l0 k x0 x1 x2 false (wrap64 (x8 + 1))))) else (none)) else (if x0.size + x1.size ≤ 9223372036854775807 then ((mix_Of.f (x0 ++ x1)).bind fun bt179 => (if ((bt179.2 == 0) != (decide ((wrap64 ((x0.size : Int) + (x1.size : Int))) > 0))) = true then (garlandlaw04_MixParts.j2 k x2 x7 true) else (if bt179.2 = 0 then ((mix_Go.f 7 x0).bind fun t181 => ((mix_Go.f t181 x1).bind fun t182 => (garlandlaw04_MixParts.j2 k x2 x7 (bt179.1 != t182)))) else (garlandlaw04_MixParts.j2 k x2 x7 false)))) else (none))
def garlandlaw04_MixParts.j2 : Nat → List ByteArray → Bool → Bool → Option (Bool)
  | 0, _, _, _ => none
  | k + 1, x2, x7, x85 => if x85 = true then (none) else ((mix_Row.f k x2).bind fun bt183 => (if x7 = true then (garlandlaw04_MixParts.l1 k x2 bt183.1 bt183.2 0) else (if bt183.2 = 2 then (if (bt183.1.length : Int) = 0 then ((garlandlaw04_wakes.f k).bind fun t187 => (some t187)) else (none)) else (none))))
def garlandlaw04_MixParts.l1 : Nat → List ByteArray → List Int → Int → Int → Option (Bool)
  | 0, _, _, _, _ => none
  | k + 1, x2, x11, x12, x13 => if x13 < (x2.length : Int) then (if 0 ≤ x13 then ((mix_Of.f (rdOf ByteArray.empty x2 x13)).bind fun bt189 => (if (x11.length : Int) = (x2.length : Int) then (if bt189.2 = 0 then (if x13 < (x11.length : Int) then (if (rd x11 x13) = bt189.1 then (garlandlaw04_MixParts.l1 k x2 x11 x12 (wrap64 (x13 + 1))) else (none)) else (none)) else (none)) else (none))) else (none)) else (if x12 = 0 then (if (x11.length : Int) = (x2.length : Int) then ((garlandlaw04_wakes.f k).bind fun t192 => (some t192)) else (none)) else (none))
end
def garlandlaw04_MixParts.f (k : Nat) (a0 : ByteArray) (a1 : ByteArray) (l2 : List ByteArray) : Option (Bool) := if (wrap64 ((a0.size : Int) + (a1.size : Int))) > 20 then (garlandlaw04_MixParts.j0 k a0 a1 l2 true) else (garlandlaw04_MixParts.j0 k a0 a1 l2 (decide ((l2.length : Int) > 20)))
theorem garlandlaw04_MixParts.mono_l : ∀ k, (∀ y0 y1 y2 y3, LeO (garlandlaw04_MixParts.j0 k y0 y1 y2 y3) (garlandlaw04_MixParts.j0 (k + 1) y0 y1 y2 y3)) ∧ (∀ y0 y1 y2 y3 y4, LeO (garlandlaw04_MixParts.l0 k y0 y1 y2 y3 y4) (garlandlaw04_MixParts.l0 (k + 1) y0 y1 y2 y3 y4)) ∧ (∀ y0 y1 y2, LeO (garlandlaw04_MixParts.j2 k y0 y1 y2) (garlandlaw04_MixParts.j2 (k + 1) y0 y1 y2)) ∧ (∀ y0 y1 y2 y3, LeO (garlandlaw04_MixParts.l1 k y0 y1 y2 y3) (garlandlaw04_MixParts.l1 (k + 1) y0 y1 y2 y3))
  | 0 => ⟨fun _ _ _ _ r h => by simp [garlandlaw04_MixParts.j0] at h, fun _ _ _ _ _ r h => by simp [garlandlaw04_MixParts.l0] at h, fun _ _ _ r h => by simp [garlandlaw04_MixParts.j2] at h, fun _ _ _ _ r h => by simp [garlandlaw04_MixParts.l1] at h⟩
  | k + 1 => by
    obtain ⟨ih0, ih1, ih2, ih3⟩ := garlandlaw04_MixParts.mono_l k
    refine ⟨?_, ?_, ?_, ?_⟩
    · intro y0 y1 y2 y3
      unfold garlandlaw04_MixParts.j0
      repeat' first
      | (with_reducible exact ih0 _ _ _ _)
      | (with_reducible exact ih1 _ _ _ _ _)
      | (with_reducible exact ih2 _ _ _)
      | (with_reducible exact ih3 _ _ _ _)
      | (with_reducible exact garlandlaw04_wakes.mono _)
      | (with_reducible exact mix_Row.mono _ _)
      | (with_reducible exact LeO.refl _)
      | (with_reducible exact LeO.none _)
      | (with_reducible refine LeO.ite ?_ ?_)
      | (with_reducible refine LeO.bind ?_ (fun _ => ?_))
      | exact ih0 _ _ _ _
      | exact ih1 _ _ _ _ _
      | exact ih2 _ _ _
      | exact ih3 _ _ _ _
      | exact garlandlaw04_wakes.mono _
      | exact mix_Row.mono _ _
      | exact LeO.none _
      | refine LeO.ite ?_ ?_
      | refine LeO.bind ?_ (fun _ => ?_)
    · intro y0 y1 y2 y3 y4
      unfold garlandlaw04_MixParts.l0
      repeat' first
      | (with_reducible exact ih0 _ _ _ _)
      | (with_reducible exact ih1 _ _ _ _ _)
      | (with_reducible exact ih2 _ _ _)
      | (with_reducible exact ih3 _ _ _ _)
      | (with_reducible exact garlandlaw04_wakes.mono _)
      | (with_reducible exact mix_Row.mono _ _)
      | (with_reducible exact LeO.refl _)
      | (with_reducible exact LeO.none _)
      | (with_reducible refine LeO.ite ?_ ?_)
      | (with_reducible refine LeO.bind ?_ (fun _ => ?_))
      | exact ih0 _ _ _ _
      | exact ih1 _ _ _ _ _
      | exact ih2 _ _ _
      | exact ih3 _ _ _ _
      | exact garlandlaw04_wakes.mono _
      | exact mix_Row.mono _ _
      | exact LeO.none _
      | refine LeO.ite ?_ ?_
      | refine LeO.bind ?_ (fun _ => ?_)
    · intro y0 y1 y2
      unfold garlandlaw04_MixParts.j2
      repeat' first
      | (with_reducible exact ih0 _ _ _ _)
      | (with_reducible exact ih1 _ _ _ _ _)
      | (with_reducible exact ih2 _ _ _)
      | (with_reducible exact ih3 _ _ _ _)
      | (with_reducible exact garlandlaw04_wakes.mono _)
      | (with_reducible exact mix_Row.mono _ _)
      | (with_reducible exact LeO.refl _)
      | (with_reducible exact LeO.none _)
      | (with_reducible refine LeO.ite ?_ ?_)
      | (with_reducible refine LeO.bind ?_ (fun _ => ?_))
      | exact ih0 _ _ _ _
      | exact ih1 _ _ _ _ _
      | exact ih2 _ _ _
      | exact ih3 _ _ _ _
      | exact garlandlaw04_wakes.mono _
      | exact mix_Row.mono _ _
      | exact LeO.none _
      | refine LeO.ite ?_ ?_
      | refine LeO.bind ?_ (fun _ => ?_)
    · intro y0 y1 y2 y3
      unfold garlandlaw04_MixParts.l1
      repeat' first
      | (with_reducible exact ih0 _ _ _ _)
      | (with_reducible exact ih1 _ _ _ _ _)
      | (with_reducible exact ih2 _ _ _)
      | (with_reducible exact ih3 _ _ _ _)
      | (with_reducible exact garlandlaw04_wakes.mono _)
      | (with_reducible exact mix_Row.mono _ _)
      | (with_reducible exact LeO.refl _)
      | (with_reducible exact LeO.none _)
      | (with_reducible refine LeO.ite ?_ ?_)
      | (with_reducible refine LeO.bind ?_ (fun _ => ?_))
      | exact ih0 _ _ _ _
      | exact ih1 _ _ _ _ _
      | exact ih2 _ _ _
      | exact ih3 _ _ _ _
      | exact garlandlaw04_wakes.mono _
      | exact mix_Row.mono _ _
      | exact LeO.none _
      | refine LeO.ite ?_ ?_
      | refine LeO.bind ?_ (fun _ => ?_)
theorem garlandlaw04_MixParts.mono : ∀ a0 a1 a2 k, LeO (garlandlaw04_MixParts.f k a0 a1 a2) (garlandlaw04_MixParts.f (k + 1) a0 a1 a2) := by
  intro a0 a1 a2 k
  obtain ⟨ih0, ih1, ih2, ih3⟩ := garlandlaw04_MixParts.mono_l k
  unfold garlandlaw04_MixParts.f
  repeat' first
      | (with_reducible exact ih0 _ _ _ _)
      | (with_reducible exact ih1 _ _ _ _ _)
      | (with_reducible exact ih2 _ _ _)
      | (with_reducible exact ih3 _ _ _ _)
      | (with_reducible exact garlandlaw04_wakes.mono _)
      | (with_reducible exact mix_Row.mono _ _)
      | (with_reducible exact LeO.refl _)
      | (with_reducible exact LeO.none _)
      | (with_reducible refine LeO.ite ?_ ?_)
      | (with_reducible refine LeO.bind ?_ (fun _ => ?_))
      | exact ih0 _ _ _ _
      | exact ih1 _ _ _ _ _
      | exact ih2 _ _ _
      | exact ih3 _ _ _ _
      | exact garlandlaw04_wakes.mono _
      | exact mix_Row.mono _ _
      | exact LeO.none _
      | refine LeO.ite ?_ ?_
      | refine LeO.bind ?_ (fun _ => ?_)
set_option maxHeartbeats 8000000 in
set_option maxRecDepth 100000 in
theorem garlandlaw04_MixParts.calls (k : Nat) (a0 : ByteArray) (a1 : ByteArray) (A2 : Option Addr) (c2 : Nat) (l2 : List ByteArray) (r : Bool) (w : World) (hr2 : Kd.C Kd.string w A2 l2.length l2) (hc2 : l2.length ≤ c2) (h : garlandlaw04_MixParts.f k a0 a1 l2 = some r) :
    Calls Try.prog 6 #[.string a0, .string a1, .slice A2 l2.length c2] w fun e w' => e = .returned (.bool r) ∧ Below w.heap.size w w' := by
  have HR2 := Aside0.mk hr2
  have HC2 := Aside0.mk hc2
  clear hr2 hc2
  have HB := Aside0.mk (Below.refl w.heap.size w)
  have H : (if (wrap64 ((a0.size : Int) + (a1.size : Int))) > 20 then (garlandlaw04_MixParts.j0 k a0 a1 l2 true) else (garlandlaw04_MixParts.j0 k a0 a1 l2 (decide ((l2.length : Int) > 20)))) = some r := h
  clear h
  have HC4 := Aside0.mk H
  clear H
  go_enter Try.func6, Try.ntmps6
  go_upto_region 1 with (fail)
  go_cut [26] (fun v26 wc => ∃ (kq : Nat) (x26_3 : Bool), v26 = .bool x26_3 ∧ Aside0 (garlandlaw04_MixParts.j0 kq a0 a1 l2 x26_3 = some r) ∧ Aside0 (kq ≤ k) ∧ Aside0 (Below w.heap.size w wc))
  case first =>
    have H := HC4.out
    clear HC4
    by_cases c5 : (wrap64 ((a0.size : Int) + (a1.size : Int))) > 20
    · rw [if_pos c5] at H
      have c5b0 : decide (20 < (wrap64 ((a0.size : Int) + (a1.size : Int)))) = true := decide_eq_true c5
      clear c5
      (first | rw [c5b0] | (simp only [i64_w, i32_w]; rw [c5b0]) | skip)
      have H' := Aside0.mk H
      clear H
      go_wp2
      go_meet
      case rel => exact ⟨_, (true), (by first | rfl | (simp; done) | (simp [*]; done)), H', ⟨by first | omega | exact Nat.le_refl _⟩, ⟨by repeat (first | (with_reducible first | exact HB.out | apply below_alloc | apply pw_below_drewN | apply below_drew1) | exact HB.out)⟩⟩
    · rw [if_neg c5] at H
      have c5b0 : decide (20 < (wrap64 ((a0.size : Int) + (a1.size : Int)))) = false := decide_eq_false c5
      clear c5
      (first | rw [c5b0] | (simp only [i64_w, i32_w]; rw [c5b0]) | skip)
      have H' := Aside0.mk H
      clear H
      go_wp2
      go_meet
      case rel => exact ⟨_, (decide ((l2.length : Int) > 20)), (by first | rfl | (simp; done) | (simp [*]; done)), H', ⟨by first | omega | exact Nat.le_refl _⟩, ⟨by repeat (first | (with_reducible first | exact HB.out | apply below_alloc | apply pw_below_drewN | apply below_drew1) | exact HB.out)⟩⟩
  case rest =>
    clear HC4
    try clear c2
    try clear p2
    try clear c5
    try clear c5b0
    obtain ⟨kq, x26_3, rfl, HA, HJ3, HB⟩ := hcut
    cases kq with
    | zero => exact absurd HA.out (by simp [garlandlaw04_MixParts.j0])
    | succ kj3 =>
      have H := HA.out
      clear HA
      simp only [garlandlaw04_MixParts.j0] at H
      by_cases c6 : x26_3 = true
      · subst c6
        have H1 : ((garlandlaw04_wakes.f kj3).bind fun t174 => (some t174)) = some r := by rw [if_pos rfl] at H; exact H
        clear H
        have H := H1
        clear H1
        replace H := Option.bind_eq_some_iff.mp H
        obtain ⟨t174, A70, H⟩ := H
        replace H : (some t174) = some r := H
        have A7 := Aside0.mk A70
        clear A70
        obtain rfl := Option.some.inj H
        go_wp2_with (first | ((with_reducible refine gate_callee (f := 8) rfl ?_); refine goesL_ (some 27) rfl rfl Try.func8 (by kernel_rfl) rfl #[] rfl (by (try simp only [List.map_toArray, List.map_cons, List.map_nil]); first | done | rfl | (simp only [List.length_drop, List.length_take]; rfl)) ?_; (with_reducible refine (garlandlaw04_wakes.calls kj3  t174 _ A7.out).mono ?_); rintro e w8 ⟨rfl, hb⟩; refine ⟨_, rfl, ?_⟩; have n0_ := Aside0.mk (below_step (by repeat (first | (with_reducible first | exact HB.out | apply below_alloc | apply pw_below_drewN | apply below_drew1) | exact HB.out)) hb); clear HB; have HB := n0_; clear n0_; (try clear hb); (try clear hb2); (try clear hk); (try clear hi)))
        go_ret
        exact ⟨by first | rfl | (simp [errW_none, errW_some] <;> rfl) | (simp [*, errW_none, errW_some] <;> rfl), by repeat (first | (with_reducible first | exact HB.out | apply below_alloc | apply pw_below_drewN | apply below_drew1) | exact HB.out)⟩
      · replace c6 := Bool.eq_false_iff.mpr c6
        subst c6
        have H1 : (garlandlaw04_MixParts.l0 kj3 a0 a1 l2 true 0) = some r := by rw [if_neg (show ¬ (false = true) by decide)] at H; exact H
        clear H
        have H := H1
        clear H1
        have H' := Aside0.mk H
        clear H
        go_wp2
        go_loopg [7, 8] kj3 (fun kq v7 v8 w' => ∃ (x7_2 : Bool) (x8_2 : Int), v7 = .bool x7_2 ∧ v8 = .int .i64 x8_2 ∧ Aside0 (garlandlaw04_MixParts.l0 kq a0 a1 l2 x7_2 x8_2 = some r) ∧ Aside0 (kq ≤ kj3) ∧ Aside0 (Below w.heap.size w w'))
        case atStart => exact ⟨(true), (0), (by first | rfl | (simp; done) | (simp [*]; done)), (by first | rfl | (simp; done) | (simp [*]; done)), H', ⟨Nat.le_refl _⟩, ⟨by repeat (first | (with_reducible first | exact HB.out | apply below_alloc | apply pw_below_drewN | apply below_drew1) | exact HB.out)⟩⟩
        case round =>
          clear H'
          try clear c2
          try clear p2
          try clear c5
          try clear c5b0
          try clear c6
          try clear p6
          try clear c8
          try clear p2
          obtain ⟨x7_2, x8_2, rfl, rfl, HA, HK2, HB⟩ := hrel
          cases gk with
          | zero => exact absurd HA.out (by simp [garlandlaw04_MixParts.l0])
          | succ k2 =>
            have H := HA.out
            clear HA
            simp only [garlandlaw04_MixParts.l0] at H
            by_cases c9 : x8_2 < (l2.length : Int)
            · rw [if_pos c9] at H
              have c9b0 : decide (x8_2 < (l2.length : Int)) = true := decide_eq_true c9
              clear c9
              by_cases c10 : 0 ≤ x8_2
              · rw [if_pos c10] at H
                have c10b0 : decide (0 ≤ x8_2) = true := decide_eq_true c10
                clear c10
                by_cases c11 : ((rdOf ByteArray.empty l2 x8_2).size : Int) > 100
                · rw [if_pos c11] at H
                  have c11b0 : decide (100 < ((rdOf ByteArray.empty l2 x8_2).size : Int)) = true := decide_eq_true c11
                  have c11b1 : decide (100 < (rdOf ByteArray.empty l2 x8_2).size) = true := decide_eq_true (by omega)
                  clear c11
                  replace H := Option.bind_eq_some_iff.mp H
                  obtain ⟨t176, A120, H⟩ := H
                  replace H : (some t176) = some r := H
                  have A12 := Aside0.mk A120
                  clear A120
                  obtain rfl := Option.some.inj H
                  have p175 : 0 ≤ (x8_2 : Int) := of_decide_eq_true (by first | (with_reducible assumption) | assumption)
                  have q175 : x8_2 < (l2.length : Int) := of_decide_eq_true (by first | (with_reducible assumption) | assumption)
                  obtain ⟨ad175, e175, hx175_0⟩ := Kd.at_string HR2.out x8_2 p175 q175
                  cases e175
                  replace hx175_0 := (HB.out.cell (World.block_lt_of_cell? w _ hx175_0)).trans hx175_0
                  replace p175 := eq_true p175
                  replace q175 := eq_true q175
                  go_wp2_with (first | ((with_reducible refine gate_callee (f := 8) rfl ?_); refine goesL_ (some 40) rfl rfl Try.func8 (by kernel_rfl) rfl #[] rfl (by (try simp only [List.map_toArray, List.map_cons, List.map_nil]); first | done | rfl | (simp only [List.length_drop, List.length_take]; rfl)) ?_; (with_reducible refine (garlandlaw04_wakes.calls k2  t176 _ A12.out).mono ?_); rintro e w13 ⟨rfl, hb⟩; refine ⟨_, rfl, ?_⟩; have n0_ := Aside0.mk (below_step (by repeat (first | (with_reducible first | exact HB.out | apply below_alloc | apply pw_below_drewN | apply below_drew1) | exact HB.out)) hb); clear HB; have HB := n0_; clear n0_; (try clear hb); (try clear hb2); (try clear hk); (try clear hi)))
                  go_ret
                  exact ⟨by first | rfl | (simp [errW_none, errW_some] <;> rfl) | (simp [*, errW_none, errW_some] <;> rfl), by repeat (first | (with_reducible first | exact HB.out | apply below_alloc | apply pw_below_drewN | apply below_drew1) | exact HB.out)⟩
                · rw [if_neg c11] at H
                  have c11b0 : decide (100 < ((rdOf ByteArray.empty l2 x8_2).size : Int)) = false := decide_eq_false c11
                  have c11b1 : decide (100 < (rdOf ByteArray.empty l2 x8_2).size) = false := decide_eq_false (by omega)
                  clear c11
                  by_cases c14 : x7_2 = true
                  · subst c14
                    have H1 : (if ((rdOf ByteArray.empty l2 x8_2).size : Int) ≥ 1 then (garlandlaw04_MixParts.l0 k2 a0 a1 l2 (decide (((rdOf ByteArray.empty l2 x8_2).size : Int) ≤ 20)) (wrap64 (x8_2 + 1))) else (garlandlaw04_MixParts.l0 k2 a0 a1 l2 false (wrap64 (x8_2 + 1)))) = some r := by rw [if_pos rfl] at H; exact H
                    clear H
                    have H := H1
                    clear H1
                    by_cases c15 : ((rdOf ByteArray.empty l2 x8_2).size : Int) ≥ 1
                    · rw [if_pos c15] at H
                      have c15b0 : decide (1 ≤ ((rdOf ByteArray.empty l2 x8_2).size : Int)) = true := decide_eq_true c15
                      have c15b1 : decide (1 ≤ (rdOf ByteArray.empty l2 x8_2).size) = true := decide_eq_true (by omega)
                      clear c15
                      have H' := Aside0.mk H
                      clear H
                      have p175 : 0 ≤ (x8_2 : Int) := of_decide_eq_true (by first | (with_reducible assumption) | assumption)
                      have q175 : x8_2 < (l2.length : Int) := of_decide_eq_true (by first | (with_reducible assumption) | assumption)
                      obtain ⟨ad175, e175, hx175_0⟩ := Kd.at_string HR2.out x8_2 p175 q175
                      cases e175
                      replace hx175_0 := (HB.out.cell (World.block_lt_of_cell? w _ hx175_0)).trans hx175_0
                      replace p175 := eq_true p175
                      replace q175 := eq_true q175
                      have p177 : 0 ≤ (x8_2 : Int) := of_decide_eq_true (by first | (with_reducible assumption) | assumption)
                      have q177 : x8_2 < (l2.length : Int) := of_decide_eq_true (by first | (with_reducible assumption) | assumption)
                      obtain ⟨ad177, e177, hx177_0⟩ := Kd.at_string HR2.out x8_2 p177 q177
                      obtain rfl : ad175 = ad177 := (by injection e177)
                      replace hx177_0 := (HB.out.cell (World.block_lt_of_cell? w _ hx177_0)).trans hx177_0
                      replace p177 := eq_true p177
                      replace q177 := eq_true q177
                      have p178 : 0 ≤ (x8_2 : Int) := of_decide_eq_true (by first | (with_reducible assumption) | assumption)
                      have q178 : x8_2 < (l2.length : Int) := of_decide_eq_true (by first | (with_reducible assumption) | assumption)
                      obtain ⟨ad178, e178, hx178_0⟩ := Kd.at_string HR2.out x8_2 p178 q178
                      obtain rfl : ad175 = ad178 := (by injection e178)
                      replace hx178_0 := (HB.out.cell (World.block_lt_of_cell? w _ hx178_0)).trans hx178_0
                      replace p178 := eq_true p178
                      replace q178 := eq_true q178
                      go_wp2
                      go_roundg k2
                      case measure => have := HJ3.out; have := HK2.out; omega
                      case rel => exact ⟨(decide (((rdOf ByteArray.empty l2 x8_2).size : Int) ≤ 20)), (wrap64 (x8_2 + 1)), (by first | rfl | (simp; done) | (simp [*]; done)), (by first | rfl | (simp; done) | (simp [*]; done)), H', ⟨by have := HJ3.out; have := HK2.out; omega⟩, ⟨by repeat (first | (with_reducible first | exact HB.out | apply below_alloc | apply pw_below_drewN | apply below_drew1) | exact HB.out)⟩⟩
                    · rw [if_neg c15] at H
                      have c15b0 : decide (1 ≤ ((rdOf ByteArray.empty l2 x8_2).size : Int)) = false := decide_eq_false c15
                      have c15b1 : decide (1 ≤ (rdOf ByteArray.empty l2 x8_2).size) = false := decide_eq_false (by omega)
                      clear c15
                      have H' := Aside0.mk H
                      clear H
                      have p175 : 0 ≤ (x8_2 : Int) := of_decide_eq_true (by first | (with_reducible assumption) | assumption)
                      have q175 : x8_2 < (l2.length : Int) := of_decide_eq_true (by first | (with_reducible assumption) | assumption)
                      obtain ⟨ad175, e175, hx175_0⟩ := Kd.at_string HR2.out x8_2 p175 q175
                      cases e175
                      replace hx175_0 := (HB.out.cell (World.block_lt_of_cell? w _ hx175_0)).trans hx175_0
                      replace p175 := eq_true p175
                      replace q175 := eq_true q175
                      have p177 : 0 ≤ (x8_2 : Int) := of_decide_eq_true (by first | (with_reducible assumption) | assumption)
                      have q177 : x8_2 < (l2.length : Int) := of_decide_eq_true (by first | (with_reducible assumption) | assumption)
                      obtain ⟨ad177, e177, hx177_0⟩ := Kd.at_string HR2.out x8_2 p177 q177
                      obtain rfl : ad175 = ad177 := (by injection e177)
                      replace hx177_0 := (HB.out.cell (World.block_lt_of_cell? w _ hx177_0)).trans hx177_0
                      replace p177 := eq_true p177
                      replace q177 := eq_true q177
                      go_wp2
                      go_roundg k2
                      case measure => have := HJ3.out; have := HK2.out; omega
                      case rel => exact ⟨(false), (wrap64 (x8_2 + 1)), (by first | rfl | (simp; done) | (simp [*]; done)), (by first | rfl | (simp; done) | (simp [*]; done)), H', ⟨by have := HJ3.out; have := HK2.out; omega⟩, ⟨by repeat (first | (with_reducible first | exact HB.out | apply below_alloc | apply pw_below_drewN | apply below_drew1) | exact HB.out)⟩⟩
                  · replace c14 := Bool.eq_false_iff.mpr c14
                    subst c14
                    have H1 : (garlandlaw04_MixParts.l0 k2 a0 a1 l2 false (wrap64 (x8_2 + 1))) = some r := by rw [if_neg (show ¬ (false = true) by decide)] at H; exact H
                    clear H
                    have H := H1
                    clear H1
                    have H' := Aside0.mk H
                    clear H
                    have p175 : 0 ≤ (x8_2 : Int) := of_decide_eq_true (by first | (with_reducible assumption) | assumption)
                    have q175 : x8_2 < (l2.length : Int) := of_decide_eq_true (by first | (with_reducible assumption) | assumption)
                    obtain ⟨ad175, e175, hx175_0⟩ := Kd.at_string HR2.out x8_2 p175 q175
                    cases e175
                    replace hx175_0 := (HB.out.cell (World.block_lt_of_cell? w _ hx175_0)).trans hx175_0
                    replace p175 := eq_true p175
                    replace q175 := eq_true q175
                    go_wp2
                    go_roundg k2
                    case measure => have := HJ3.out; have := HK2.out; omega
                    case rel => exact ⟨(false), (wrap64 (x8_2 + 1)), (by first | rfl | (simp; done) | (simp [*]; done)), (by first | rfl | (simp; done) | (simp [*]; done)), H', ⟨by have := HJ3.out; have := HK2.out; omega⟩, ⟨by repeat (first | (with_reducible first | exact HB.out | apply below_alloc | apply pw_below_drewN | apply below_drew1) | exact HB.out)⟩⟩
              · rw [if_neg c10] at H
                exact absurd H (by simp)
            · rw [if_neg c9] at H
              have c9b0 : decide (x8_2 < (l2.length : Int)) = false := decide_eq_false c9
              clear c9
              by_cases c16 : a0.size + a1.size ≤ 9223372036854775807
              · rw [if_pos c16] at H
                have c16b0 := eq_true c16
                have c16b1 : decide (a0.size + a1.size ≤ 9223372036854775807) = true := decide_eq_true c16
                try have c16b2 : (9223372036854775807 < a0.size + a1.size) = False := eq_false (Nat.not_lt.2 c16)
                replace H := Option.bind_eq_some_iff.mp H
                obtain ⟨⟨t179, t180⟩, A170, H⟩ := H
                replace H : (if ((t180 == 0) != (decide ((wrap64 ((a0.size : Int) + (a1.size : Int))) > 0))) = true then (garlandlaw04_MixParts.j2 k2 l2 x7_2 true) else (if t180 = 0 then ((mix_Go.f 7 a0).bind fun t181 => ((mix_Go.f t181 a1).bind fun t182 => (garlandlaw04_MixParts.j2 k2 l2 x7_2 (t179 != t182)))) else (garlandlaw04_MixParts.j2 k2 l2 x7_2 false))) = some r := H
                have A17 := Aside0.mk A170
                clear A170
                have HC18 := Aside0.mk H
                clear H
                go_upto_region 11 with (first | ((with_reducible refine gate_callee (f := 9) rfl ?_); refine goesL_ (some 62) rfl rfl Try.func9 (by kernel_rfl) rfl #[.string (a0 ++ a1)] rfl (by (try simp only [List.map_toArray, List.map_cons, List.map_nil]); first | done | rfl | (simp only [List.length_drop, List.length_take]; rfl)) ?_; (with_reducible refine (mix_Of.calls (a0 ++ a1) t179 t180 _ A17.out).mono ?_); rintro e w19 ⟨rfl, hb⟩; refine ⟨_, rfl, ?_⟩; have n0_ := Aside0.mk (below_step (by repeat (first | (with_reducible first | exact HB.out | apply below_alloc | apply pw_below_drewN | apply below_drew1) | exact HB.out)) hb); clear HB; have HB := n0_; clear n0_; (try clear hb); (try clear hb2); (try clear hk); (try clear hi)))
                (try simp only [Act.put, List.setIfInBounds_toArray, List.set_cons_zero, List.set_cons_succ])
                go_cut [85] (fun v85 wc => ∃ (kq : Nat) (x85_17 : Bool), v85 = .bool x85_17 ∧ Aside0 (garlandlaw04_MixParts.j2 kq l2 x7_2 x85_17 = some r) ∧ Aside0 (kq ≤ k2) ∧ Aside0 (Below w.heap.size w wc))
                case first =>
                  have H := HC18.out
                  clear HC18
                  have hsum : wrap64 ((a0.size : Int) + (a1.size : Int)) = (a0.size : Int) + (a1.size : Int) := by unfold wrap64; omega
                  by_cases ce : t180 = 0
                  · have ce1 : (t180 == 0) = true := beq_iff_eq.mpr ce
                    by_cases cs : wrap64 ((a0.size : Int) + (a1.size : Int)) > 0
                    · have cs1 : decide (wrap64 ((a0.size : Int) + (a1.size : Int)) > 0) = true := decide_eq_true cs
                      have cs2 : (0 < wrap64 ((a0.size : Int) + (a1.size : Int))) = True := eq_true cs
                      have cs3 : (0 < ((a0.size : Int) + (a1.size : Int))) = True := by rw [← hsum]; exact eq_true cs
                      have cs4 : decide (0 < ((a0.size : Int) + (a1.size : Int))) = true := by rw [← hsum]; exact decide_eq_true cs
                      have cs5 : (0 < ((a0.size : Int) + (a1.size : Int))) := by rw [← hsum]; exact cs
                      rw [ce1, cs1, if_neg (by decide), if_pos ce] at H
                      clear ce cs
                      replace H := Option.bind_eq_some_iff.mp H
                      obtain ⟨t181, A220, H⟩ := H
                      replace H : ((mix_Go.f t181 a1).bind fun t182 => (garlandlaw04_MixParts.j2 k2 l2 x7_2 (t179 != t182))) = some r := H
                      have A22 := Aside0.mk A220
                      clear A220
                      replace H := Option.bind_eq_some_iff.mp H
                      obtain ⟨t182, A230, H⟩ := H
                      replace H : (garlandlaw04_MixParts.j2 k2 l2 x7_2 (t179 != t182)) = some r := H
                      have A23 := Aside0.mk A230
                      clear A230
                      have H' := Aside0.mk H
                      clear H
                      go_wp2_with (first | (go_at_call 17; (with_reducible refine (mix_Go.calls 7 a0 t181 _ A22.out).mono ?_); rintro e w24 ⟨rfl, hb⟩; have n0_ := Aside0.mk (below_step (by repeat (first | (with_reducible first | exact HB.out | apply below_alloc | apply pw_below_drewN | apply below_drew1) | exact HB.out)) hb); clear HB; have HB := n0_; clear n0_; (try clear hb); (try clear hb2); (try clear hk); (try clear hi)) | (go_at_call 17; (with_reducible refine (mix_Go.calls t181 a1 t182 _ A23.out).mono ?_); rintro e w25 ⟨rfl, hb⟩; have n0_ := Aside0.mk (below_step (by repeat (first | (with_reducible first | exact HB.out | apply below_alloc | apply pw_below_drewN | apply below_drew1) | exact HB.out)) hb); clear HB; have HB := n0_; clear n0_; (try clear hb); (try clear hb2); (try clear hk); (try clear hi)))
                      go_meet
                      case rel => exact ⟨_, ((t179 != t182)), (by first | rfl | (simp; done) | (simp [*]; done)), H', ⟨by have := HJ3.out; have := HK2.out; first | omega | exact Nat.le_refl _⟩, ⟨by repeat (first | (with_reducible first | exact HB.out | apply below_alloc | apply pw_below_drewN | apply below_drew1) | exact HB.out)⟩⟩
                    · have cs1 : decide (wrap64 ((a0.size : Int) + (a1.size : Int)) > 0) = false := decide_eq_false cs
                      have cs2 : (0 < wrap64 ((a0.size : Int) + (a1.size : Int))) = False := eq_false cs
                      have cs3 : (0 < ((a0.size : Int) + (a1.size : Int))) = False := by rw [← hsum]; exact eq_false cs
                      have cs4 : decide (0 < ((a0.size : Int) + (a1.size : Int))) = false := by rw [← hsum]; exact decide_eq_false cs
                      have cs5 : ¬ (0 < ((a0.size : Int) + (a1.size : Int))) := by rw [← hsum]; exact cs
                      rw [ce1, cs1, if_pos (by decide)] at H
                      clear ce cs
                      have H' := Aside0.mk H
                      clear H
                      go_wp2
                      go_meet
                      case rel => exact ⟨_, (true), (by first | rfl | (simp; done) | (simp [*]; done)), H', ⟨by have := HJ3.out; have := HK2.out; first | omega | exact Nat.le_refl _⟩, ⟨by repeat (first | (with_reducible first | exact HB.out | apply below_alloc | apply pw_below_drewN | apply below_drew1) | exact HB.out)⟩⟩
                  · have ce1 : (t180 == 0) = false := beq_eq_false_iff_ne.mpr ce
                    by_cases cs : wrap64 ((a0.size : Int) + (a1.size : Int)) > 0
                    · have cs1 : decide (wrap64 ((a0.size : Int) + (a1.size : Int)) > 0) = true := decide_eq_true cs
                      have cs2 : (0 < wrap64 ((a0.size : Int) + (a1.size : Int))) = True := eq_true cs
                      have cs3 : (0 < ((a0.size : Int) + (a1.size : Int))) = True := by rw [← hsum]; exact eq_true cs
                      have cs4 : decide (0 < ((a0.size : Int) + (a1.size : Int))) = true := by rw [← hsum]; exact decide_eq_true cs
                      have cs5 : (0 < ((a0.size : Int) + (a1.size : Int))) := by rw [← hsum]; exact cs
                      rw [ce1, cs1, if_pos (by decide)] at H
                      clear ce cs
                      have H' := Aside0.mk H
                      clear H
                      go_wp2
                      go_meet
                      case rel => exact ⟨_, (true), (by first | rfl | (simp; done) | (simp [*]; done)), H', ⟨by have := HJ3.out; have := HK2.out; first | omega | exact Nat.le_refl _⟩, ⟨by repeat (first | (with_reducible first | exact HB.out | apply below_alloc | apply pw_below_drewN | apply below_drew1) | exact HB.out)⟩⟩
                    · have cs1 : decide (wrap64 ((a0.size : Int) + (a1.size : Int)) > 0) = false := decide_eq_false cs
                      have cs2 : (0 < wrap64 ((a0.size : Int) + (a1.size : Int))) = False := eq_false cs
                      have cs3 : (0 < ((a0.size : Int) + (a1.size : Int))) = False := by rw [← hsum]; exact eq_false cs
                      have cs4 : decide (0 < ((a0.size : Int) + (a1.size : Int))) = false := by rw [← hsum]; exact decide_eq_false cs
                      have cs5 : ¬ (0 < ((a0.size : Int) + (a1.size : Int))) := by rw [← hsum]; exact cs
                      rw [ce1, cs1, if_neg (by decide), if_neg ce] at H
                      clear ce cs
                      have H' := Aside0.mk H
                      clear H
                      go_wp2
                      go_meet
                      case rel => exact ⟨_, (false), (by first | rfl | (simp; done) | (simp [*]; done)), H', ⟨by have := HJ3.out; have := HK2.out; first | omega | exact Nat.le_refl _⟩, ⟨by repeat (first | (with_reducible first | exact HB.out | apply below_alloc | apply pw_below_drewN | apply below_drew1) | exact HB.out)⟩⟩
                case rest =>
                  clear HC18
                  try clear c1
                  try clear p1
                  try clear q1
                  try clear hx1
                  try clear c2
                  try clear p2
                  try clear c5
                  try clear c5b0
                  try clear c6
                  try clear p6
                  try clear c8
                  try clear c9
                  try clear c9b0
                  try clear c10
                  try clear c10b0
                  try clear c11
                  try clear c11b0
                  try clear c11b1
                  try clear c14
                  try clear c15
                  try clear c15b0
                  try clear c15b1
                  try clear c16
                  try clear c16b0
                  try clear c16b1
                  try clear c16b2
                  try clear p17
                  try clear q17
                  try clear hx17
                  try clear c20
                  try clear c20b0
                  try clear c20b1
                  try clear c20b2
                  try clear c21
                  try clear c21b0
                  try clear c21b1
                  try clear hx175_0
                  try clear hx177_0
                  try clear hx178_0
                  try clear p175
                  try clear p177
                  try clear p178
                  try clear p2
                  try clear p6
                  try clear q175
                  try clear q177
                  try clear q178
                  obtain ⟨kq, x85_17, rfl, HA, HJ17, HB⟩ := hcut
                  cases kq with
                  | zero => exact absurd HA.out (by simp [garlandlaw04_MixParts.j2])
                  | succ kj17 =>
                    have H := HA.out
                    clear HA
                    simp only [garlandlaw04_MixParts.j2] at H
                    by_cases c26 : x85_17 = true
                    · subst c26
                      have H1 : (none) = some r := by rw [if_pos rfl] at H; exact H
                      clear H
                      have H := H1
                      clear H1
                      exact absurd H (by simp)
                    · replace c26 := Bool.eq_false_iff.mpr c26
                      subst c26
                      have H1 : ((mix_Row.f kj17 l2).bind fun bt183 => (if x7_2 = true then (garlandlaw04_MixParts.l1 kj17 l2 bt183.1 bt183.2 0) else (if bt183.2 = 2 then (if (bt183.1.length : Int) = 0 then ((garlandlaw04_wakes.f kj17).bind fun t187 => (some t187)) else (none)) else (none)))) = some r := by rw [if_neg (show ¬ (false = true) by decide)] at H; exact H
                      clear H
                      have H := H1
                      clear H1
                      replace H := Option.bind_eq_some_iff.mp H
                      obtain ⟨⟨t183, t184⟩, A270, H⟩ := H
                      replace H : (if x7_2 = true then (garlandlaw04_MixParts.l1 kj17 l2 t183 t184 0) else (if t184 = 2 then (if (t183.length : Int) = 0 then ((garlandlaw04_wakes.f kj17).bind fun t187 => (some t187)) else (none)) else (none))) = some r := H
                      have A27 := Aside0.mk A270
                      clear A270
                      by_cases c28 : x7_2 = true
                      · subst c28
                        have H1 : (garlandlaw04_MixParts.l1 kj17 l2 t183 t184 0) = some r := by rw [if_pos rfl] at H; exact H
                        clear H
                        have H := H1
                        clear H1
                        have H' := Aside0.mk H
                        clear H
                        go_wp2_with (first | ((with_reducible refine gate_callee (f := 11) rfl ?_); refine goesL_ (some 88) rfl rfl Try.func11 (by kernel_rfl) rfl #[.slice A2 l2.length c2] rfl (by (try simp only [List.map_toArray, List.map_cons, List.map_nil]); first | done | rfl | (simp only [List.length_drop, List.length_take]; rfl)) ?_; (with_reducible refine (mix_Row.calls kj17 _ _ l2 t183 t184 _ ?side1 ?side2 A27.out).mono ?_); (case side1 => repeat (first | exact (Kd.C_below HR2.out HB.out) | (with_reducible refine Kd.C_alloc ?_ _) | (with_reducible refine Kd.C_drewN ?_ _) | (with_reducible refine Kd.C_drew ?_))); (case side2 => exact HC2.out); rintro e w29 ⟨v185, rfl, ho0, hb⟩; refine ⟨_, rfl, ?_⟩; have n0_ := Aside0.mk (Kd.R_lower ho0 (below_size (by repeat (first | (with_reducible first | exact HB.out | apply below_alloc | apply pw_below_drewN | apply below_drew1) | exact HB.out)))); have n1_ := Aside0.mk (below_step (by repeat (first | (with_reducible first | exact HB.out | apply below_alloc | apply pw_below_drewN | apply below_drew1) | exact HB.out)) hb); clear HB; have HO186 := n0_; have HB := n1_; clear n0_ n1_; (try clear hb); (try clear hb2); (try clear hk); (try clear hi); (try clear ho0)))
                        go_loopg [13] kj17 (fun kq v13 w' => ∃ (x13_4 : Int), v13 = .int .i64 x13_4 ∧ Aside0 (garlandlaw04_MixParts.l1 kq l2 t183 t184 x13_4 = some r) ∧ Aside0 (kq ≤ kj17) ∧ Aside0 (Kd.R (Kd.int .i64) 3 w' w.heap.size (fun _ => True) v185 t183) ∧ Aside0 (Below w.heap.size w w'))
                        case atStart => exact ⟨(0), (by first | rfl | (simp; done) | (simp [*]; done)), H', ⟨Nat.le_refl _⟩, ⟨by (with_reducible repeat (first | apply Kd.R_alloc | apply Kd.R_drewN | apply Kd.R_drew)); exact HO186.out⟩, ⟨by repeat (first | (with_reducible first | exact HB.out | apply below_alloc | apply pw_below_drewN | apply below_drew1) | exact HB.out)⟩⟩
                        case round =>
                          clear H'
                          try clear c1
                          try clear p1
                          try clear q1
                          try clear hx1
                          try clear c2
                          try clear p2
                          try clear c5
                          try clear c5b0
                          try clear c6
                          try clear p6
                          try clear c8
                          try clear c9
                          try clear c9b0
                          try clear c10
                          try clear c10b0
                          try clear c11
                          try clear c11b0
                          try clear c11b1
                          try clear c14
                          try clear c15
                          try clear c15b0
                          try clear c15b1
                          try clear c16
                          try clear c16b0
                          try clear c16b1
                          try clear c16b2
                          try clear p17
                          try clear q17
                          try clear hx17
                          try clear c20
                          try clear c20b0
                          try clear c20b1
                          try clear c20b2
                          try clear c21
                          try clear c21b0
                          try clear c21b1
                          try clear c26
                          try clear c28
                          try clear hx175_0
                          try clear hx177_0
                          try clear hx178_0
                          try clear p1
                          try clear p17
                          try clear p175
                          try clear p177
                          try clear p178
                          try clear p2
                          try clear p6
                          try clear q1
                          try clear q17
                          try clear q175
                          try clear q177
                          try clear q178
                          obtain ⟨x13_4, rfl, HA, HK4, HO_11, HB⟩ := hrel
                          cases gk with
                          | zero => exact absurd HA.out (by simp [garlandlaw04_MixParts.l1])
                          | succ k4 =>
                            have H := HA.out
                            clear HA
                            simp only [garlandlaw04_MixParts.l1] at H
                            by_cases c30 : x13_4 < (l2.length : Int)
                            · rw [if_pos c30] at H
                              have c30b0 : decide (x13_4 < (l2.length : Int)) = true := decide_eq_true c30
                              clear c30
                              by_cases c31 : 0 ≤ x13_4
                              · rw [if_pos c31] at H
                                have c31b0 : decide (0 ≤ x13_4) = true := decide_eq_true c31
                                clear c31
                                replace H := Option.bind_eq_some_iff.mp H
                                obtain ⟨⟨t189, t190⟩, A320, H⟩ := H
                                replace H : (if (t183.length : Int) = (l2.length : Int) then (if t190 = 0 then (if x13_4 < (t183.length : Int) then (if (rd t183 x13_4) = t189 then (garlandlaw04_MixParts.l1 k4 l2 t183 t184 (wrap64 (x13_4 + 1))) else (none)) else (none)) else (none)) else (none)) = some r := H
                                have A32 := Aside0.mk A320
                                clear A320
                                by_cases c33 : (t183.length : Int) = (l2.length : Int)
                                · rw [if_pos c33] at H
                                  have c33b0 : ((t183.length : Int) == (l2.length : Int)) = true := beq_iff_eq.mpr c33
                                  have c33b1 : ((t183.length : Int) != (l2.length : Int)) = false := bne_eq_false_iff_eq.mpr c33
                                  have c33b2 : (t183.length == l2.length) = true := by first | simpa using c33 | (simp at c33 ⊢; omega)
                                  clear c33
                                  by_cases c34 : t190 = 0
                                  · rw [if_pos c34] at H
                                    have c34b0 : (t190 == 0) = true := beq_iff_eq.mpr c34
                                    have c34b1 : (t190 != 0) = false := bne_eq_false_iff_eq.mpr c34
                                    clear c34
                                    by_cases c35 : x13_4 < (t183.length : Int)
                                    · rw [if_pos c35] at H
                                      have c35b0 : decide (x13_4 < (t183.length : Int)) = true := decide_eq_true c35
                                      clear c35
                                      by_cases c36 : (rd t183 x13_4) = t189
                                      · rw [if_pos c36] at H
                                        have c36b0 : ((rd t183 x13_4) == t189) = true := beq_iff_eq.mpr c36
                                        have c36b1 : ((rd t183 x13_4) != t189) = false := bne_eq_false_iff_eq.mpr c36
                                        clear c36
                                        have H' := Aside0.mk H
                                        clear H
                                        have p188 : 0 ≤ (x13_4 : Int) := of_decide_eq_true (by first | (with_reducible assumption) | assumption)
                                        have q188 : x13_4 < (l2.length : Int) := of_decide_eq_true (by first | (with_reducible assumption) | assumption)
                                        obtain ⟨ad188, e188, hx188_0⟩ := Kd.at_string HR2.out x13_4 p188 q188
                                        cases e188
                                        replace hx188_0 := (HB.out.cell (World.block_lt_of_cell? w _ hx188_0)).trans hx188_0
                                        replace p188 := eq_true p188
                                        replace q188 := eq_true q188
                                        go_wp2_with (first | ((with_reducible refine gate_callee (f := 9) rfl ?_); refine goesL_ (some 114) rfl rfl Try.func9 (by kernel_rfl) rfl #[.string (rdOf ByteArray.empty l2 x13_4)] rfl (by (try simp only [List.map_toArray, List.map_cons, List.map_nil]); first | done | rfl | (simp only [List.length_drop, List.length_take]; rfl)) ?_; (with_reducible refine (mix_Of.calls (rdOf ByteArray.empty l2 x13_4) t189 t190 _ A32.out).mono ?_); rintro e w37 ⟨rfl, hb⟩; refine ⟨_, rfl, ?_⟩; have n0_ := Aside0.mk (Kd.R_below (by (with_reducible repeat (first | apply Kd.R_alloc | apply Kd.R_drewN | apply Kd.R_drew)); exact HO_11.out) hb); have n1_ := Aside0.mk (below_step (by repeat (first | (with_reducible first | exact HB.out | apply below_alloc | apply pw_below_drewN | apply below_drew1) | exact HB.out)) hb); clear HO_11; clear HB; have HO_11 := n0_; have HB := n1_; clear n0_ n1_; (try clear hb); (try clear hb2); (try clear hk); (try clear hi); obtain ⟨Ao38, co38, eo38⟩ := Kd.R_slice HO_11.out; subst eo38; have p191 : 0 ≤ (x13_4 : Int) := of_decide_eq_true (by first | (with_reducible assumption) | assumption); have q191 : x13_4 < (t183.length : Int) := of_decide_eq_true (by first | (with_reducible assumption) | assumption); obtain ⟨ad191, e191, hx191_0⟩ := Kd.at_int (Kd.R_reads' HO_11.out).2.2 x13_4 p191 q191; cases e191; replace p191 := eq_true p191; replace q191 := eq_true q191))
                                        go_roundg k4
                                        case measure => have := HJ3.out; have := HK2.out; have := HJ17.out; have := HK4.out; omega
                                        case rel => exact ⟨(wrap64 (x13_4 + 1)), (by first | rfl | (simp; done) | (simp [*]; done)), H', ⟨by have := HJ3.out; have := HK2.out; have := HJ17.out; have := HK4.out; omega⟩, ⟨by (with_reducible repeat (first | apply Kd.R_alloc | apply Kd.R_drewN | apply Kd.R_drew)); exact HO_11.out⟩, ⟨by repeat (first | (with_reducible first | exact HB.out | apply below_alloc | apply pw_below_drewN | apply below_drew1) | exact HB.out)⟩⟩
                                      · rw [if_neg c36] at H
                                        exact absurd H (by simp)
                                    · rw [if_neg c35] at H
                                      exact absurd H (by simp)
                                  · rw [if_neg c34] at H
                                    exact absurd H (by simp)
                                · rw [if_neg c33] at H
                                  exact absurd H (by simp)
                              · rw [if_neg c31] at H
                                exact absurd H (by simp)
                            · rw [if_neg c30] at H
                              have c30b0 : decide (x13_4 < (l2.length : Int)) = false := decide_eq_false c30
                              clear c30
                              by_cases c39 : t184 = 0
                              · rw [if_pos c39] at H
                                have c39b0 : (t184 == 0) = true := beq_iff_eq.mpr c39
                                have c39b1 : (t184 != 0) = false := bne_eq_false_iff_eq.mpr c39
                                clear c39
                                by_cases c40 : (t183.length : Int) = (l2.length : Int)
                                · rw [if_pos c40] at H
                                  have c40b0 : ((t183.length : Int) == (l2.length : Int)) = true := beq_iff_eq.mpr c40
                                  have c40b1 : ((t183.length : Int) != (l2.length : Int)) = false := bne_eq_false_iff_eq.mpr c40
                                  have c40b2 : (t183.length == l2.length) = true := by first | simpa using c40 | (simp at c40 ⊢; omega)
                                  clear c40
                                  replace H := Option.bind_eq_some_iff.mp H
                                  obtain ⟨t192, A410, H⟩ := H
                                  replace H : (some t192) = some r := H
                                  have A41 := Aside0.mk A410
                                  clear A410
                                  obtain rfl := Option.some.inj H
                                  obtain ⟨Ao42, co42, eo42⟩ := Kd.R_slice HO_11.out
                                  subst eo42
                                  go_wp2_with (first | (go_at_call 8; (with_reducible refine (garlandlaw04_wakes.calls k4  t192 _ A41.out).mono ?_); rintro e w43 ⟨rfl, hb⟩; have n0_ := Aside0.mk (Kd.R_below (by (with_reducible repeat (first | apply Kd.R_alloc | apply Kd.R_drewN | apply Kd.R_drew)); exact HO_11.out) hb); have n1_ := Aside0.mk (below_step (by repeat (first | (with_reducible first | exact HB.out | apply below_alloc | apply pw_below_drewN | apply below_drew1) | exact HB.out)) hb); clear HO_11; clear HB; have HO_11 := n0_; have HB := n1_; clear n0_ n1_; (try clear hb); (try clear hb2); (try clear hk); (try clear hi)))
                                  go_ret
                                  exact ⟨by first | rfl | (simp [errW_none, errW_some] <;> rfl) | (simp [*, errW_none, errW_some] <;> rfl), by repeat (first | (with_reducible first | exact HB.out | apply below_alloc | apply pw_below_drewN | apply below_drew1) | exact HB.out)⟩
                                · rw [if_neg c40] at H
                                  exact absurd H (by simp)
                              · rw [if_neg c39] at H
                                exact absurd H (by simp)
                      · replace c28 := Bool.eq_false_iff.mpr c28
                        subst c28
                        have H1 : (if t184 = 2 then (if (t183.length : Int) = 0 then ((garlandlaw04_wakes.f kj17).bind fun t187 => (some t187)) else (none)) else (none)) = some r := by rw [if_neg (show ¬ (false = true) by decide)] at H; exact H
                        clear H
                        have H := H1
                        clear H1
                        by_cases c44 : t184 = 2
                        · rw [if_pos c44] at H
                          have c44b0 : (t184 == 2) = true := beq_iff_eq.mpr c44
                          have c44b1 : (t184 != 2) = false := bne_eq_false_iff_eq.mpr c44
                          clear c44
                          by_cases c45 : (t183.length : Int) = 0
                          · rw [if_pos c45] at H
                            have c45b0 : ((t183.length : Int) == 0) = true := beq_iff_eq.mpr c45
                            have c45b1 : ((t183.length : Int) != 0) = false := bne_eq_false_iff_eq.mpr c45
                            clear c45
                            replace H := Option.bind_eq_some_iff.mp H
                            obtain ⟨t187, A460, H⟩ := H
                            replace H : (some t187) = some r := H
                            have A46 := Aside0.mk A460
                            clear A460
                            obtain rfl := Option.some.inj H
                            go_wp2_with (first | ((with_reducible refine gate_callee (f := 11) rfl ?_); refine goesL_ (some 88) rfl rfl Try.func11 (by kernel_rfl) rfl #[.slice A2 l2.length c2] rfl (by (try simp only [List.map_toArray, List.map_cons, List.map_nil]); first | done | rfl | (simp only [List.length_drop, List.length_take]; rfl)) ?_; (with_reducible refine (mix_Row.calls kj17 _ _ l2 t183 t184 _ ?side1 ?side2 A27.out).mono ?_); (case side1 => repeat (first | exact (Kd.C_below HR2.out HB.out) | (with_reducible refine Kd.C_alloc ?_ _) | (with_reducible refine Kd.C_drewN ?_ _) | (with_reducible refine Kd.C_drew ?_))); (case side2 => exact HC2.out); rintro e w47 ⟨v185, rfl, ho0, hb⟩; refine ⟨_, rfl, ?_⟩; have n0_ := Aside0.mk (Kd.R_lower ho0 (below_size (by repeat (first | (with_reducible first | exact HB.out | apply below_alloc | apply pw_below_drewN | apply below_drew1) | exact HB.out)))); have n1_ := Aside0.mk (below_step (by repeat (first | (with_reducible first | exact HB.out | apply below_alloc | apply pw_below_drewN | apply below_drew1) | exact HB.out)) hb); clear HB; have HO186 := n0_; have HB := n1_; clear n0_ n1_; (try clear hb); (try clear hb2); (try clear hk); (try clear hi); (try clear ho0); obtain ⟨Ao48, co48, eo48⟩ := Kd.R_slice HO186.out; subst eo48) | (go_at_call 8; (with_reducible refine (garlandlaw04_wakes.calls kj17  t187 _ A46.out).mono ?_); rintro e w49 ⟨rfl, hb⟩; have n0_ := Aside0.mk (Kd.R_below (by (with_reducible repeat (first | apply Kd.R_alloc | apply Kd.R_drewN | apply Kd.R_drew)); exact HO186.out) hb); have n1_ := Aside0.mk (below_step (by repeat (first | (with_reducible first | exact HB.out | apply below_alloc | apply pw_below_drewN | apply below_drew1) | exact HB.out)) hb); clear HO186; clear HB; have HO186 := n0_; have HB := n1_; clear n0_ n1_; (try clear hb); (try clear hb2); (try clear hk); (try clear hi)))
                            go_ret
                            exact ⟨by first | rfl | (simp [errW_none, errW_some] <;> rfl) | (simp [*, errW_none, errW_some] <;> rfl), by repeat (first | (with_reducible first | exact HB.out | apply below_alloc | apply pw_below_drewN | apply below_drew1) | exact HB.out)⟩
                          · rw [if_neg c45] at H
                            exact absurd H (by simp)
                        · rw [if_neg c44] at H
                          exact absurd H (by simp)
              · rw [if_neg c16] at H
                exact absurd H (by simp)

end Go.Proofs.Ytjnkgccabgiocaa.G
