/- What calls of the program's functions answer: contracts, printed by this session's program (wip/tools/gprint.py) or told by hand. -/
import Derived.Test.YtnaohcimmafhkaaG0
import Derived.Test.YtnaohcimmafhkaaG2
import Derived.Test.YtnaohcimmafhkaaG4
import Derived.Test.YtnaohcimmafhkaaG5
import Derived.Test.YtnaohcimmafhkaaG7
import Derived.Test.YtnaohcimmafhkaaG9
namespace Go.Proofs.Ytnaohcimmafhkaa.G
open Go.RowKit Go.Proofs.YtnaohcimmafhkaaW.PrintWords Go.Proofs.YtnaohcimmafhkaaW.PrintLast Go.Proofs.YtnaohcimmafhkaaW.PrintMore
attribute [local go_sem] max2_int min2_int max_two min_two max_three min_three max_four min_four   -- for this text's walks alone
set_option linter.unusedVariables false
set_option linter.unusedSimpArgs false

/-! ### garlandlaw01_NumParts: function 8 -/
mutual
def garlandlaw01_NumParts.j0 : Nat → ByteArray → List Int → Bool → Option (Bool)
  | 0, _, _, _ => none
  | k + 1, x0, x1, x25 => if x25 = true then ((garlandlaw01_wakes.f k).bind fun t562 => (some t562)) else ((num_Text.f x0).bind fun bt563 => (if bt563.2 = 0 then (if (bt563.1.length : Int) = (wrap64 ((x0.size : Int) + 1)) then (if 0 < (bt563.1.length : Int) then (if (wrap64 (rd bt563.1 0)) = (x0.size : Int) then (if 1 ≤ (bt563.1.length : Int) then (garlandlaw01_NumParts.j1 k x1 ((strOfNums (bt563.1.drop 1)).toList != x0.toList)) else (none)) else (garlandlaw01_NumParts.j1 k x1 true)) else (none)) else (garlandlaw01_NumParts.j1 k x1 true)) else (garlandlaw01_NumParts.j1 k x1 true)))
def garlandlaw01_NumParts.j1 : Nat → List Int → Bool → Option (Bool)
  | 0, _, _ => none
  | k + 1, x1, x57 => if x57 = true then (none) else ((num_List.f k x1).bind fun bt572 => (garlandlaw01_NumParts.l0 k x1 bt572.1 bt572.2 ([] : List Int) 0))
def garlandlaw01_NumParts.l0 : Nat → List Int → List Int → Int → List Int → Int → Option (Bool)
  | 0, _, _, _, _, _ => none
  | k + 1, x1, x7, x8, x9, x10 => if x10 < (x1.length : Int) then (if 0 ≤ x10 then ((num_Put.f (rd x1 x10)).bind fun bt577 => (if bt577.2 = 0 then (if x9.length + bt577.1.length < 140737488355328 then (garlandlaw01_NumParts.l0 k x1 x7 x8 (x9 ++ bt577.1) (wrap64 (x10 + 1))) else (none)) else (if x8 = 2 then (if (x7.length : Int) = 0 then ((garlandlaw01_wakes.f k).bind fun t584 => (some t584)) else (none)) else (none)))) else (none)) else (if x8 = 0 then (if (x7.length : Int) = (wrap64 ((x9.length : Int) + 1)) then (if 0 < (x7.length : Int) then (if (wrap64 (rd x7 0)) = (x1.length : Int) then (if 1 ≤ (x7.length : Int) then ((garlandlaw01_same.f (x7.drop 1) x9).bind fun t590 => (garlandlaw01_NumParts.j3 k x1 x9 (!t590))) else (none)) else (garlandlaw01_NumParts.j3 k x1 x9 true)) else (none)) else (garlandlaw01_NumParts.j3 k x1 x9 true)) else (garlandlaw01_NumParts.j3 k x1 x9 true))
def garlandlaw01_NumParts.j3 : Nat → List Int → List Int → Bool → Option (Bool)
  | 0, _, _, _ => none
  | k + 1, x1, x9, x117 => if x117 = true then (none) else (garlandlaw01_NumParts.l1 k x1 x9 0)
def garlandlaw01_NumParts.l1 : Nat → List Int → List Int → Int → Option (Bool)
  | 0, _, _, _ => none
  | k + 1, x1, x13, x14 => if x14 < (x1.length : Int) then ((num_Take.f x13).bind fun bt591 => (if bt591.2.2 = 0 then (if 0 ≤ x14 then (if bt591.1 = (rd x1 x14) then (if (bt591.2.1.length : Int) ≥ (x13.length : Int) then (none) else (garlandlaw01_NumParts.l1 k x1 bt591.2.1 (wrap64 (x14 + 1)))) else (none)) else (none)) else (none))) else (if (x13.length : Int) = 0 then ((garlandlaw01_wakes.f k).bind fun t597 => (some t597)) else (none))
end
def garlandlaw01_NumParts.f (k : Nat) (a0 : ByteArray) (l1 : List Int) : Option (Bool) := if (a0.size : Int) > 255 then (garlandlaw01_NumParts.j0 k a0 l1 true) else (garlandlaw01_NumParts.j0 k a0 l1 (decide ((l1.length : Int) > 100)))
theorem garlandlaw01_NumParts.mono_l : ∀ k, (∀ y0 y1 y2, LeO (garlandlaw01_NumParts.j0 k y0 y1 y2) (garlandlaw01_NumParts.j0 (k + 1) y0 y1 y2)) ∧ (∀ y0 y1, LeO (garlandlaw01_NumParts.j1 k y0 y1) (garlandlaw01_NumParts.j1 (k + 1) y0 y1)) ∧ (∀ y0 y1 y2 y3 y4, LeO (garlandlaw01_NumParts.l0 k y0 y1 y2 y3 y4) (garlandlaw01_NumParts.l0 (k + 1) y0 y1 y2 y3 y4)) ∧ (∀ y0 y1 y2, LeO (garlandlaw01_NumParts.j3 k y0 y1 y2) (garlandlaw01_NumParts.j3 (k + 1) y0 y1 y2)) ∧ (∀ y0 y1 y2, LeO (garlandlaw01_NumParts.l1 k y0 y1 y2) (garlandlaw01_NumParts.l1 (k + 1) y0 y1 y2))
  | 0 => ⟨fun _ _ _ r h => by simp [garlandlaw01_NumParts.j0] at h, fun _ _ r h => by simp [garlandlaw01_NumParts.j1] at h, fun _ _ _ _ _ r h => by simp [garlandlaw01_NumParts.l0] at h, fun _ _ _ r h => by simp [garlandlaw01_NumParts.j3] at h, fun _ _ _ r h => by simp [garlandlaw01_NumParts.l1] at h⟩
  | k + 1 => by
    obtain ⟨ih0, ih1, ih2, ih3, ih4⟩ := garlandlaw01_NumParts.mono_l k
    refine ⟨?_, ?_, ?_, ?_, ?_⟩
    · intro y0 y1 y2
      unfold garlandlaw01_NumParts.j0
      repeat' first
      | (with_reducible exact ih0 _ _ _)
      | (with_reducible exact ih1 _ _)
      | (with_reducible exact ih2 _ _ _ _ _)
      | (with_reducible exact ih3 _ _ _)
      | (with_reducible exact ih4 _ _ _)
      | (with_reducible exact garlandlaw01_wakes.mono _)
      | (with_reducible exact num_List.mono _ _)
      | (with_reducible exact LeO.refl _)
      | (with_reducible exact LeO.none _)
      | (with_reducible refine LeO.ite ?_ ?_)
      | (with_reducible refine LeO.bind ?_ (fun _ => ?_))
      | exact ih0 _ _ _
      | exact ih1 _ _
      | exact ih2 _ _ _ _ _
      | exact ih3 _ _ _
      | exact ih4 _ _ _
      | exact garlandlaw01_wakes.mono _
      | exact num_List.mono _ _
      | exact LeO.none _
      | refine LeO.ite ?_ ?_
      | refine LeO.bind ?_ (fun _ => ?_)
    · intro y0 y1
      unfold garlandlaw01_NumParts.j1
      repeat' first
      | (with_reducible exact ih0 _ _ _)
      | (with_reducible exact ih1 _ _)
      | (with_reducible exact ih2 _ _ _ _ _)
      | (with_reducible exact ih3 _ _ _)
      | (with_reducible exact ih4 _ _ _)
      | (with_reducible exact garlandlaw01_wakes.mono _)
      | (with_reducible exact num_List.mono _ _)
      | (with_reducible exact LeO.refl _)
      | (with_reducible exact LeO.none _)
      | (with_reducible refine LeO.ite ?_ ?_)
      | (with_reducible refine LeO.bind ?_ (fun _ => ?_))
      | exact ih0 _ _ _
      | exact ih1 _ _
      | exact ih2 _ _ _ _ _
      | exact ih3 _ _ _
      | exact ih4 _ _ _
      | exact garlandlaw01_wakes.mono _
      | exact num_List.mono _ _
      | exact LeO.none _
      | refine LeO.ite ?_ ?_
      | refine LeO.bind ?_ (fun _ => ?_)
    · intro y0 y1 y2 y3 y4
      unfold garlandlaw01_NumParts.l0
      repeat' first
      | (with_reducible exact ih0 _ _ _)
      | (with_reducible exact ih1 _ _)
      | (with_reducible exact ih2 _ _ _ _ _)
      | (with_reducible exact ih3 _ _ _)
      | (with_reducible exact ih4 _ _ _)
      | (with_reducible exact garlandlaw01_wakes.mono _)
      | (with_reducible exact num_List.mono _ _)
      | (with_reducible exact LeO.refl _)
      | (with_reducible exact LeO.none _)
      | (with_reducible refine LeO.ite ?_ ?_)
      | (with_reducible refine LeO.bind ?_ (fun _ => ?_))
      | exact ih0 _ _ _
      | exact ih1 _ _
      | exact ih2 _ _ _ _ _
      | exact ih3 _ _ _
      | exact ih4 _ _ _
      | exact garlandlaw01_wakes.mono _
      | exact num_List.mono _ _
      | exact LeO.none _
      | refine LeO.ite ?_ ?_
      | refine LeO.bind ?_ (fun _ => ?_)
    · intro y0 y1 y2
      unfold garlandlaw01_NumParts.j3
      repeat' first
      | (with_reducible exact ih0 _ _ _)
      | (with_reducible exact ih1 _ _)
      | (with_reducible exact ih2 _ _ _ _ _)
      | (with_reducible exact ih3 _ _ _)
      | (with_reducible exact ih4 _ _ _)
      | (with_reducible exact garlandlaw01_wakes.mono _)
      | (with_reducible exact num_List.mono _ _)
      | (with_reducible exact LeO.refl _)
      | (with_reducible exact LeO.none _)
      | (with_reducible refine LeO.ite ?_ ?_)
      | (with_reducible refine LeO.bind ?_ (fun _ => ?_))
      | exact ih0 _ _ _
      | exact ih1 _ _
      | exact ih2 _ _ _ _ _
      | exact ih3 _ _ _
      | exact ih4 _ _ _
      | exact garlandlaw01_wakes.mono _
      | exact num_List.mono _ _
      | exact LeO.none _
      | refine LeO.ite ?_ ?_
      | refine LeO.bind ?_ (fun _ => ?_)
    · intro y0 y1 y2
      unfold garlandlaw01_NumParts.l1
      repeat' first
      | (with_reducible exact ih0 _ _ _)
      | (with_reducible exact ih1 _ _)
      | (with_reducible exact ih2 _ _ _ _ _)
      | (with_reducible exact ih3 _ _ _)
      | (with_reducible exact ih4 _ _ _)
      | (with_reducible exact garlandlaw01_wakes.mono _)
      | (with_reducible exact num_List.mono _ _)
      | (with_reducible exact LeO.refl _)
      | (with_reducible exact LeO.none _)
      | (with_reducible refine LeO.ite ?_ ?_)
      | (with_reducible refine LeO.bind ?_ (fun _ => ?_))
      | exact ih0 _ _ _
      | exact ih1 _ _
      | exact ih2 _ _ _ _ _
      | exact ih3 _ _ _
      | exact ih4 _ _ _
      | exact garlandlaw01_wakes.mono _
      | exact num_List.mono _ _
      | exact LeO.none _
      | refine LeO.ite ?_ ?_
      | refine LeO.bind ?_ (fun _ => ?_)
theorem garlandlaw01_NumParts.mono : ∀ a0 a1 k, LeO (garlandlaw01_NumParts.f k a0 a1) (garlandlaw01_NumParts.f (k + 1) a0 a1) := by
  intro a0 a1 k
  obtain ⟨ih0, ih1, ih2, ih3, ih4⟩ := garlandlaw01_NumParts.mono_l k
  unfold garlandlaw01_NumParts.f
  repeat' first
      | (with_reducible exact ih0 _ _ _)
      | (with_reducible exact ih1 _ _)
      | (with_reducible exact ih2 _ _ _ _ _)
      | (with_reducible exact ih3 _ _ _)
      | (with_reducible exact ih4 _ _ _)
      | (with_reducible exact garlandlaw01_wakes.mono _)
      | (with_reducible exact num_List.mono _ _)
      | (with_reducible exact LeO.refl _)
      | (with_reducible exact LeO.none _)
      | (with_reducible refine LeO.ite ?_ ?_)
      | (with_reducible refine LeO.bind ?_ (fun _ => ?_))
      | exact ih0 _ _ _
      | exact ih1 _ _
      | exact ih2 _ _ _ _ _
      | exact ih3 _ _ _
      | exact ih4 _ _ _
      | exact garlandlaw01_wakes.mono _
      | exact num_List.mono _ _
      | exact LeO.none _
      | refine LeO.ite ?_ ?_
      | refine LeO.bind ?_ (fun _ => ?_)
set_option maxHeartbeats 8000000 in
set_option maxRecDepth 100000 in
theorem garlandlaw01_NumParts.calls (k : Nat) (a0 : ByteArray) (A1 : Option Addr) (c1 : Nat) (l1 : List Int) (r : Bool) (w : World) (hr1 : Kd.C (Kd.int .i64) w A1 l1.length l1) (hc1 : l1.length ≤ c1) (h : garlandlaw01_NumParts.f k a0 l1 = some r) :
    Calls Try.prog 8 #[.string a0, .slice A1 l1.length c1] w fun e w' => e = .returned (.bool r) ∧ Below w.heap.size w w' := by
  have HR1 := Aside0.mk hr1
  have HC1 := Aside0.mk hc1
  clear hr1 hc1
  have HB := Aside0.mk (Below.refl w.heap.size w)
  have H : (if (a0.size : Int) > 255 then (garlandlaw01_NumParts.j0 k a0 l1 true) else (garlandlaw01_NumParts.j0 k a0 l1 (decide ((l1.length : Int) > 100)))) = some r := h
  clear h
  have HC3 := Aside0.mk H
  clear H
  go_enter Try.func8, Try.ntmps8
  go_upto_region 1 with (fail)
  go_cut [25] (fun v25 wc => ∃ (kq : Nat) (x25_2 : Bool), v25 = .bool x25_2 ∧ Aside0 (garlandlaw01_NumParts.j0 kq a0 l1 x25_2 = some r) ∧ Aside0 (kq ≤ k) ∧ Aside0 (Below w.heap.size w wc))
  case first =>
    have H := HC3.out
    clear HC3
    by_cases c4 : (a0.size : Int) > 255
    · rw [if_pos c4] at H
      have c4b0 : decide (255 < (a0.size : Int)) = true := decide_eq_true c4
      have c4b1 : decide (255 < a0.size) = true := decide_eq_true (by omega)
      clear c4
      (first | rw [c4b0] | (simp only [i64_w, i32_w]; rw [c4b0]) | skip)
      have H' := Aside0.mk H
      clear H
      go_wp2
      go_meet
      case rel => exact ⟨_, (true), (by first | rfl | (simp; done) | (simp [*]; done)), H', ⟨by first | omega | exact Nat.le_refl _⟩, ⟨by repeat (first | (with_reducible first | exact HB.out | apply below_alloc | apply pw_below_drewN | apply below_drew1) | exact HB.out)⟩⟩
    · rw [if_neg c4] at H
      have c4b0 : decide (255 < (a0.size : Int)) = false := decide_eq_false c4
      have c4b1 : decide (255 < a0.size) = false := decide_eq_false (by omega)
      clear c4
      (first | rw [c4b0] | (simp only [i64_w, i32_w]; rw [c4b0]) | skip)
      have H' := Aside0.mk H
      clear H
      go_wp2
      go_meet
      case rel => exact ⟨_, (decide ((l1.length : Int) > 100)), (by first | rfl | (simp; done) | (simp [*]; done)), H', ⟨by first | omega | exact Nat.le_refl _⟩, ⟨by repeat (first | (with_reducible first | exact HB.out | apply below_alloc | apply pw_below_drewN | apply below_drew1) | exact HB.out)⟩⟩
  case rest =>
    clear HC3
    try clear c1
    try clear p2
    try clear c4
    try clear c4b0
    try clear c4b1
    obtain ⟨kq, x25_2, rfl, HA, HJ2, HB⟩ := hcut
    cases kq with
    | zero => exact absurd HA.out (by simp [garlandlaw01_NumParts.j0])
    | succ kj2 =>
      have H := HA.out
      clear HA
      simp only [garlandlaw01_NumParts.j0] at H
      by_cases c5 : x25_2 = true
      · subst c5
        have H1 : ((garlandlaw01_wakes.f kj2).bind fun t562 => (some t562)) = some r := by rw [if_pos rfl] at H; exact H
        clear H
        have H := H1
        clear H1
        replace H := Option.bind_eq_some_iff.mp H
        obtain ⟨t562, A60, H⟩ := H
        replace H : (some t562) = some r := H
        have A6 := Aside0.mk A60
        clear A60
        obtain rfl := Option.some.inj H
        go_wp2_with (first | ((with_reducible refine gate_callee (f := 9) rfl ?_); refine goesL_ (some 26) rfl rfl Try.func9 (by kernel_rfl) rfl #[] rfl (by (try simp only [List.map_toArray, List.map_cons, List.map_nil]); first | done | rfl | (simp only [List.length_drop, List.length_take]; rfl)) ?_; (with_reducible refine (garlandlaw01_wakes.calls kj2  t562 _ A6.out).mono ?_); rintro e w7 ⟨rfl, hb⟩; refine ⟨_, rfl, ?_⟩; have n0_ := Aside0.mk (below_step (by repeat (first | (with_reducible first | exact HB.out | apply below_alloc | apply pw_below_drewN | apply below_drew1) | exact HB.out)) hb); clear HB; have HB := n0_; clear n0_; (try clear hb); (try clear hb2); (try clear hk); (try clear hi)))
        go_ret
        exact ⟨by first | rfl | (simp [errW_none, errW_some] <;> rfl) | (simp [*, errW_none, errW_some] <;> rfl), by repeat (first | (with_reducible first | exact HB.out | apply below_alloc | apply pw_below_drewN | apply below_drew1) | exact HB.out)⟩
      · replace c5 := Bool.eq_false_iff.mpr c5
        subst c5
        have H1 : ((num_Text.f a0).bind fun bt563 => (if bt563.2 = 0 then (if (bt563.1.length : Int) = (wrap64 ((a0.size : Int) + 1)) then (if 0 < (bt563.1.length : Int) then (if (wrap64 (rd bt563.1 0)) = (a0.size : Int) then (if 1 ≤ (bt563.1.length : Int) then (garlandlaw01_NumParts.j1 kj2 l1 ((strOfNums (bt563.1.drop 1)).toList != a0.toList)) else (none)) else (garlandlaw01_NumParts.j1 kj2 l1 true)) else (none)) else (garlandlaw01_NumParts.j1 kj2 l1 true)) else (garlandlaw01_NumParts.j1 kj2 l1 true))) = some r := by rw [if_neg (show ¬ (false = true) by decide)] at H; exact H
        clear H
        have H := H1
        clear H1
        replace H := Option.bind_eq_some_iff.mp H
        obtain ⟨⟨t563, t564⟩, A80, H⟩ := H
        replace H : (if t564 = 0 then (if (t563.length : Int) = (wrap64 ((a0.size : Int) + 1)) then (if 0 < (t563.length : Int) then (if (wrap64 (rd t563 0)) = (a0.size : Int) then (if 1 ≤ (t563.length : Int) then (garlandlaw01_NumParts.j1 kj2 l1 ((strOfNums (t563.drop 1)).toList != a0.toList)) else (none)) else (garlandlaw01_NumParts.j1 kj2 l1 true)) else (none)) else (garlandlaw01_NumParts.j1 kj2 l1 true)) else (garlandlaw01_NumParts.j1 kj2 l1 true)) = some r := H
        have A8 := Aside0.mk A80
        clear A80
        have HC9 := Aside0.mk H
        clear H
        go_upto_region 4 with (first | ((with_reducible refine gate_callee (f := 12) rfl ?_); refine goesL_ (some 29) rfl rfl Try.func12 (by kernel_rfl) rfl #[.string a0] rfl (by (try simp only [List.map_toArray, List.map_cons, List.map_nil]); first | done | rfl | (simp only [List.length_drop, List.length_take]; rfl)) ?_; (with_reducible refine (num_Text.calls a0 t563 t564 _ A8.out).mono ?_); rintro e w10 ⟨v565, rfl, ho0, hb⟩; refine ⟨_, rfl, ?_⟩; have n0_ := Aside0.mk (Kd.R_lower ho0 (below_size (by repeat (first | (with_reducible first | exact HB.out | apply below_alloc | apply pw_below_drewN | apply below_drew1) | exact HB.out)))); have n1_ := Aside0.mk (below_step (by repeat (first | (with_reducible first | exact HB.out | apply below_alloc | apply pw_below_drewN | apply below_drew1) | exact HB.out)) hb); clear HB; have HO566 := n0_; have HB := n1_; clear n0_ n1_; (try clear hb); (try clear hb2); (try clear hk); (try clear hi); (try clear ho0)))
        (try simp only [Act.put, List.setIfInBounds_toArray, List.set_cons_zero, List.set_cons_succ])
        go_cut [57] (fun v57 wc => ∃ (kq : Nat) (x57_8 : Bool), v57 = .bool x57_8 ∧ Aside0 (garlandlaw01_NumParts.j1 kq l1 x57_8 = some r) ∧ Aside0 (kq ≤ kj2) ∧ Aside0 (Below w.heap.size w wc))
        case first =>
          have H := HC9.out
          clear HC9
          by_cases c11 : t564 = 0
          · rw [if_pos c11] at H
            have c11b0 : (t564 == 0) = true := beq_iff_eq.mpr c11
            have c11b1 : (t564 != 0) = false := bne_eq_false_iff_eq.mpr c11
            clear c11
            (first | rw [c11b0] | (simp only [i64_w, i32_w]; rw [c11b0]) | skip)
            by_cases c12 : (t563.length : Int) = (wrap64 ((a0.size : Int) + 1))
            · rw [if_pos c12] at H
              have c12b0 : ((t563.length : Int) == (wrap64 ((a0.size : Int) + 1))) = true := beq_iff_eq.mpr c12
              have c12b1 : ((t563.length : Int) != (wrap64 ((a0.size : Int) + 1))) = false := bne_eq_false_iff_eq.mpr c12
              clear c12
              by_cases c13 : 0 < (t563.length : Int)
              · rw [if_pos c13] at H
                have c13b0 : decide (0 < (t563.length : Int)) = true := decide_eq_true c13
                have c13b1 : decide (0 < t563.length) = true := decide_eq_true (by omega)
                clear c13
                by_cases c14 : (wrap64 (rd t563 0)) = (a0.size : Int)
                · rw [if_pos c14] at H
                  have c14b0 : ((wrap64 (rd t563 0)) == (a0.size : Int)) = true := beq_iff_eq.mpr c14
                  have c14b1 : ((wrap64 (rd t563 0)) != (a0.size : Int)) = false := bne_eq_false_iff_eq.mpr c14
                  clear c14
                  by_cases c15 : 1 ≤ (t563.length : Int)
                  · rw [if_pos c15] at H
                    have c15b0 := eq_true c15
                    have c15b1 : decide (1 ≤ (t563.length : Int)) = true := decide_eq_true c15
                    clear c15
                    obtain ⟨y568, hy568⟩ : ∃ y_ : List Int, y_ = (t563.drop 1) := ⟨_, rfl⟩
                    replace H : (garlandlaw01_NumParts.j1 kj2 l1 ((strOfNums y568).toList != a0.toList)) = some r := by first | (rw [hy568]; with_reducible exact H) | (have H2_ := (Option.bind_some _ _).symm.trans H; rw [hy568]; with_reducible exact H2_) | (have H2_ := (Option.bind_some _ _).symm.trans H; with_reducible exact H2_) | with_reducible exact H | (rw [hy568]; exact H) | exact H
                    have Ny568 := Aside0.mk hy568
                    clear hy568
                    have H' := Aside0.mk H
                    clear H
                    obtain ⟨Ao16, co16, eo16⟩ := Kd.R_slice HO566.out
                    subst eo16
                    have p567 : 0 ≤ (0 : Int) := (by omega)
                    have q567 : 0 < (t563.length : Int) := of_decide_eq_true (by first | (with_reducible assumption) | assumption)
                    obtain ⟨ad567, e567, hx567_0⟩ := Kd.at_int (Kd.R_reads' HO566.out).2.2 0 p567 q567
                    cases e567
                    have qi567 : (0 < t563.length) = True := eq_true (by omega)
                    (try rw [show ((0 : Int)).toNat = 0 from rfl] at hx567_0)
                    (try rw [Addr.add_zero'] at hx567_0)
                    replace p567 := eq_true p567
                    replace q567 := eq_true q567
                    have q17 : (1 : Int) ≤ ((t563.length : Int) : Int) := of_decide_eq_true (by first | (with_reducible assumption) | assumption)
                    obtain ⟨i017, hi017, _, hsz17, _⟩ := info_parts info5
                    have hroom17 : t563.length ≤ co16 := (Kd.R_reads' HO566.out).2.1
                    have hC17 : Kd.C (Kd.int .u8) _ (some ad567) t563.length t563 := (Kd.R_reads' HO566.out).2.2
                    have hcut17 := cut_from (P := Try.prog) 23 5 .i64 Try.underlying23 hi017 1 hsz17 (some ad567) t563.length co16 1 (by omega) q17
                    have hr17 := Kd.C_drop (m := (1 : Int).toNat) (c := co16) hC17 (by omega) hroom17
                    obtain ⟨A17, hA17⟩ : ∃ A1, A1 = (if co16 = (1 : Int).toNat then (some ad567) else ((some ad567) : Option Addr).map (·.add ((1 : Int).toNat * 1))) := ⟨_, rfl⟩
                    obtain ⟨c17, hc17⟩ : ∃ c1, c1 = co16 - (1 : Int).toNat := ⟨_, rfl⟩
                    have hy17 : y568.length = t563.length - (1 : Int).toNat := (by rw [Ny568.out, List.length_drop] <;> omega)
                    rw [show (t563).drop (1 : Int).toNat = y568 from Ny568.out.symm] at hr17
                    replace hr17 : Kd.C (Kd.int .u8) _ A17 y568.length y568 := (by rw [hA17]; exact hr17)
                    rw [← hy17, ← hA17, ← hc17] at hcut17
                    have HR571 := Aside0.mk hr17
                    have HC571 := Aside0.mk (show y568.length ≤ c17 from by rw [hy17, hc17]; exact Nat.sub_le_sub_right hroom17 _)
                    clear hr17 hC17 hroom17 hi017 hsz17 hc17
                    have KY17 := Aside0.mk hy17
                    have KA17 := Aside0.mk hA17
                    clear hy17 hA17
                    have KL17 := Aside0.mk (show 1 ≤ t563.length from by omega)
                    replace q17 := eq_true q17
                    have hcv18 := Kd.C_string (P := Try.prog) (A := A17) (c := c17) Try.underlying23 Try.underlying5 Try.underlying9 (by repeat (first | (with_reducible exact HR571.out) | (with_reducible refine Kd.C_alloc ?_ _) | (with_reducible refine Kd.C_drewN ?_ _) | (with_reducible refine Kd.C_drew ?_) | exact HR571.out))
                    go_wp2
                    go_meet
                    case rel => exact ⟨_, (((strOfNums y568).toList != a0.toList)), (by first | rfl | (simp; done) | (simp [*]; done)), H', ⟨by have := HJ2.out; first | omega | exact Nat.le_refl _⟩, ⟨by repeat (first | (with_reducible first | exact HB.out | apply below_alloc | apply pw_below_drewN | apply below_drew1) | exact HB.out)⟩⟩
                  · rw [if_neg c15] at H
                    exact absurd H (by simp)
                · rw [if_neg c14] at H
                  have c14b0 : ((wrap64 (rd t563 0)) == (a0.size : Int)) = false := beq_eq_false_iff_ne.mpr c14
                  have c14b1 : ((wrap64 (rd t563 0)) != (a0.size : Int)) = true := bne_iff_ne.mpr c14
                  have H' := Aside0.mk H
                  clear H
                  obtain ⟨Ao19, co19, eo19⟩ := Kd.R_slice HO566.out
                  subst eo19
                  have p567 : 0 ≤ (0 : Int) := (by omega)
                  have q567 : 0 < (t563.length : Int) := of_decide_eq_true (by first | (with_reducible assumption) | assumption)
                  obtain ⟨ad567, e567, hx567_0⟩ := Kd.at_int (Kd.R_reads' HO566.out).2.2 0 p567 q567
                  cases e567
                  have qi567 : (0 < t563.length) = True := eq_true (by omega)
                  (try rw [show ((0 : Int)).toNat = 0 from rfl] at hx567_0)
                  (try rw [Addr.add_zero'] at hx567_0)
                  replace p567 := eq_true p567
                  replace q567 := eq_true q567
                  go_wp2
                  go_meet
                  case rel => exact ⟨_, (true), (by first | rfl | (simp; done) | (simp [*]; done)), H', ⟨by have := HJ2.out; first | omega | exact Nat.le_refl _⟩, ⟨by repeat (first | (with_reducible first | exact HB.out | apply below_alloc | apply pw_below_drewN | apply below_drew1) | exact HB.out)⟩⟩
              · rw [if_neg c13] at H
                exact absurd H (by simp)
            · rw [if_neg c12] at H
              have c12b0 : ((t563.length : Int) == (wrap64 ((a0.size : Int) + 1))) = false := beq_eq_false_iff_ne.mpr c12
              have c12b1 : ((t563.length : Int) != (wrap64 ((a0.size : Int) + 1))) = true := bne_iff_ne.mpr c12
              have H' := Aside0.mk H
              clear H
              obtain ⟨Ao20, co20, eo20⟩ := Kd.R_slice HO566.out
              subst eo20
              go_wp2
              go_meet
              case rel => exact ⟨_, (true), (by first | rfl | (simp; done) | (simp [*]; done)), H', ⟨by have := HJ2.out; first | omega | exact Nat.le_refl _⟩, ⟨by repeat (first | (with_reducible first | exact HB.out | apply below_alloc | apply pw_below_drewN | apply below_drew1) | exact HB.out)⟩⟩
          · rw [if_neg c11] at H
            have c11b0 : (t564 == 0) = false := beq_eq_false_iff_ne.mpr c11
            have c11b1 : (t564 != 0) = true := bne_iff_ne.mpr c11
            (first | rw [c11b0] | (simp only [i64_w, i32_w]; rw [c11b0]) | skip)
            have H' := Aside0.mk H
            clear H
            go_wp2
            go_meet
            case rel => exact ⟨_, (true), (by first | rfl | (simp; done) | (simp [*]; done)), H', ⟨by have := HJ2.out; first | omega | exact Nat.le_refl _⟩, ⟨by repeat (first | (with_reducible first | exact HB.out | apply below_alloc | apply pw_below_drewN | apply below_drew1) | exact HB.out)⟩⟩
        case rest =>
          clear HC9
          try clear c1
          try clear q1
          try clear hcv1
          try clear p2
          try clear c4
          try clear c4b0
          try clear c4b1
          try clear c5
          try clear p5
          try clear q5
          try clear hx5
          try clear qi5
          try clear p6
          try clear c8
          try clear c9
          try clear c11
          try clear c11b0
          try clear c11b1
          try clear c12
          try clear c12b0
          try clear c12b1
          try clear c13
          try clear c13b0
          try clear c13b1
          try clear c14
          try clear c14b0
          try clear c14b1
          try clear c15
          try clear c15b0
          try clear c15b1
          try clear c17
          try clear q17
          try clear hcv18
          try clear hx567_0
          try clear p2
          try clear p567
          try clear q17
          try clear q567
          obtain ⟨kq, x57_8, rfl, HA, HJ8, HB⟩ := hcut
          cases kq with
          | zero => exact absurd HA.out (by simp [garlandlaw01_NumParts.j1])
          | succ kj8 =>
            have H := HA.out
            clear HA
            simp only [garlandlaw01_NumParts.j1] at H
            by_cases c21 : x57_8 = true
            · subst c21
              have H1 : (none) = some r := by rw [if_pos rfl] at H; exact H
              clear H
              have H := H1
              clear H1
              exact absurd H (by simp)
            · replace c21 := Bool.eq_false_iff.mpr c21
              subst c21
              have H1 : ((num_List.f kj8 l1).bind fun bt572 => (garlandlaw01_NumParts.l0 kj8 l1 bt572.1 bt572.2 ([] : List Int) 0)) = some r := by rw [if_neg (show ¬ (false = true) by decide)] at H; exact H
              clear H
              have H := H1
              clear H1
              replace H := Option.bind_eq_some_iff.mp H
              obtain ⟨⟨t572, t573⟩, A220, H⟩ := H
              replace H : (garlandlaw01_NumParts.l0 kj8 l1 t572 t573 ([] : List Int) 0) = some r := H
              have A22 := Aside0.mk A220
              clear A220
              have H' := Aside0.mk H
              clear H
              go_wp2_with (first | ((with_reducible refine gate_callee (f := 15) rfl ?_); refine goesL_ (some 60) rfl rfl Try.func15 (by kernel_rfl) rfl #[.slice A1 l1.length c1] rfl (by (try simp only [List.map_toArray, List.map_cons, List.map_nil]); first | done | rfl | (simp only [List.length_drop, List.length_take]; rfl)) ?_; (with_reducible refine (num_List.calls kj8 _ _ l1 t572 t573 _ ?side1 ?side2 A22.out).mono ?_); (case side1 => repeat (first | exact (Kd.C_below HR1.out HB.out) | (with_reducible refine Kd.C_alloc ?_ _) | (with_reducible refine Kd.C_drewN ?_ _) | (with_reducible refine Kd.C_drew ?_))); (case side2 => exact HC1.out); rintro e w23 ⟨v574, rfl, ho0, hb⟩; refine ⟨_, rfl, ?_⟩; have n0_ := Aside0.mk (Kd.R_lower ho0 (below_size (by repeat (first | (with_reducible first | exact HB.out | apply below_alloc | apply pw_below_drewN | apply below_drew1) | exact HB.out)))); have n1_ := Aside0.mk (below_step (by repeat (first | (with_reducible first | exact HB.out | apply below_alloc | apply pw_below_drewN | apply below_drew1) | exact HB.out)) hb); clear HB; have HO575 := n0_; have HB := n1_; clear n0_ n1_; (try clear hb); (try clear hb2); (try clear hk); (try clear hi); (try clear ho0)))
              go_loopg [9, 10] kj8 (fun kq v9 v10 w' => ∃ (x9_3 : List Int) (x10_3 : Int), v10 = .int .i64 x10_3 ∧ Aside0 (garlandlaw01_NumParts.l0 kq l1 t572 t573 x9_3 x10_3 = some r) ∧ Aside0 (kq ≤ kj8) ∧ Aside0 (Kd.R (Kd.int .u8) 5 w' w.heap.size (fun k_ => some k_ ≠ (v9 : Value).ownBlock) v574 t572) ∧ Aside0 (Kd.R (Kd.int .u8) 5 w' w.heap.size (fun k_ => some k_ ≠ (v574 : Value).ownBlock) v9 x9_3) ∧ Aside0 (Below w.heap.size w w'))
              case atStart => exact ⟨(([] : List Int)), (0), (by first | rfl | (simp; done) | (simp [*]; done)), H', ⟨Nat.le_refl _⟩, ⟨by (with_reducible repeat (first | apply Kd.R_alloc | apply Kd.R_drewN | apply Kd.R_drew)); exact Kd.R_mono HO575.out (fun _ hk => (by simp [Value.ownBlock]))⟩, ⟨by first | exact Kd.R_nil _ _ _ _ _ | exact Kd.N_nil _ _ _ _ _ | exact Kd.V_nil _ _ _ _ _ | exact Kd.Q_nil _ _ _ _ _ | exact Kd.S_nil _ _ _ _ _⟩, ⟨by repeat (first | (with_reducible first | exact HB.out | apply below_alloc | apply pw_below_drewN | apply below_drew1) | exact HB.out)⟩⟩
              case round =>
                clear H'
                try clear c1
                try clear q1
                try clear hcv1
                try clear c2
                try clear p2
                try clear c4
                try clear c4b0
                try clear c4b1
                try clear c5
                try clear p5
                try clear q5
                try clear hx5
                try clear qi5
                try clear p6
                try clear c8
                try clear c9
                try clear c11
                try clear c11b0
                try clear c11b1
                try clear c12
                try clear c12b0
                try clear c12b1
                try clear c13
                try clear c13b0
                try clear c13b1
                try clear c14
                try clear c14b0
                try clear c14b1
                try clear c15
                try clear c15b0
                try clear c15b1
                try clear c17
                try clear q17
                try clear hcv18
                try clear c21
                try clear hx567_0
                try clear p2
                try clear p5
                try clear p567
                try clear p6
                try clear q1
                try clear q17
                try clear q5
                try clear q567
                obtain ⟨x9_3, x10_3, rfl, HA, HK3, HO_7, HO_9, HB⟩ := hrel
                cases gk with
                | zero => exact absurd HA.out (by simp [garlandlaw01_NumParts.l0])
                | succ k3 =>
                  have H := HA.out
                  clear HA
                  simp only [garlandlaw01_NumParts.l0] at H
                  by_cases c24 : x10_3 < (l1.length : Int)
                  · rw [if_pos c24] at H
                    have c24b0 : decide (x10_3 < (l1.length : Int)) = true := decide_eq_true c24
                    clear c24
                    by_cases c25 : 0 ≤ x10_3
                    · rw [if_pos c25] at H
                      have c25b0 : decide (0 ≤ x10_3) = true := decide_eq_true c25
                      clear c25
                      replace H := Option.bind_eq_some_iff.mp H
                      obtain ⟨⟨t577, t578⟩, A260, H⟩ := H
                      replace H : (if t578 = 0 then (if x9_3.length + t577.length < 140737488355328 then (garlandlaw01_NumParts.l0 k3 l1 t572 t573 (x9_3 ++ t577) (wrap64 (x10_3 + 1))) else (none)) else (if t573 = 2 then (if (t572.length : Int) = 0 then ((garlandlaw01_wakes.f k3).bind fun t584 => (some t584)) else (none)) else (none))) = some r := H
                      have A26 := Aside0.mk A260
                      clear A260
                      by_cases c27 : t578 = 0
                      · rw [if_pos c27] at H
                        have c27b0 : (t578 == 0) = true := beq_iff_eq.mpr c27
                        have c27b1 : (t578 != 0) = false := bne_eq_false_iff_eq.mpr c27
                        clear c27
                        by_cases c28 : x9_3.length + t577.length < 140737488355328
                        · rw [if_pos c28] at H
                          have LMc28 := Aside0.mk c28
                          clear c28
                          obtain ⟨y581, hy581⟩ : ∃ y_ : List Int, y_ = (x9_3 ++ t577) := ⟨_, rfl⟩
                          replace H : (garlandlaw01_NumParts.l0 k3 l1 t572 t573 y581 (wrap64 (x10_3 + 1))) = some r := by first | (rw [hy581]; with_reducible exact H) | (have H2_ := (Option.bind_some _ _).symm.trans H; rw [hy581]; with_reducible exact H2_) | (have H2_ := (Option.bind_some _ _).symm.trans H; with_reducible exact H2_) | with_reducible exact H | (rw [hy581]; exact H) | exact H
                          have Ny581 := Aside0.mk hy581
                          clear hy581
                          have H' := Aside0.mk H
                          clear H
                          have p576 : 0 ≤ (x10_3 : Int) := of_decide_eq_true (by first | (with_reducible assumption) | assumption)
                          have q576 : x10_3 < (l1.length : Int) := of_decide_eq_true (by first | (with_reducible assumption) | assumption)
                          obtain ⟨ad576, e576, hx576_0⟩ := Kd.at_int HR1.out x10_3 p576 q576
                          cases e576
                          replace hx576_0 := (HB.out.cell (World.block_lt_of_cell? w _ hx576_0)).trans hx576_0
                          replace p576 := eq_true p576
                          replace q576 := eq_true q576
                          go_wp2_with (first | ((with_reducible refine gate_callee (f := 10) rfl ?_); refine goesL_ (some 74) rfl rfl Try.func10 (by kernel_rfl) rfl #[.int .i64 (rd l1 x10_3)] rfl (by (try simp only [List.map_toArray, List.map_cons, List.map_nil]); first | done | rfl | (simp only [List.length_drop, List.length_take]; rfl)) ?_; (with_reducible refine (num_Put.calls (rd l1 x10_3) t577 t578 _ A26.out).mono ?_); rintro e w29 ⟨v579, rfl, ho0, hb⟩; refine ⟨_, rfl, ?_⟩; have n0_ := Aside0.mk (Kd.R_elder' (by (with_reducible repeat (first | apply Kd.R_alloc | apply Kd.R_drewN | apply Kd.R_drew)); exact HO_7.out) (Kd.R_base ho0) hb); have n1_ := Aside0.mk (Kd.R_elder' (by (with_reducible repeat (first | apply Kd.R_alloc | apply Kd.R_drewN | apply Kd.R_drew)); exact HO_9.out) (Kd.R_base ho0) hb); have n2_ := Aside0.mk (Kd.R_lower (Kd.R_new' (Kd.R_new' ho0 (Kd.R_lt (by (with_reducible repeat (first | apply Kd.R_alloc | apply Kd.R_drewN | apply Kd.R_drew)); exact HO_7.out))) (Kd.R_lt (by (with_reducible repeat (first | apply Kd.R_alloc | apply Kd.R_drewN | apply Kd.R_drew)); exact HO_9.out))) (below_size (by repeat (first | (with_reducible first | exact HB.out | apply below_alloc | apply pw_below_drewN | apply below_drew1) | exact HB.out)))); have n3_ := Aside0.mk (below_step (by repeat (first | (with_reducible first | exact HB.out | apply below_alloc | apply pw_below_drewN | apply below_drew1) | exact HB.out)) hb); clear HO_7; clear HO_9; clear HB; have HO_7 := n0_; have HO_9 := n1_; have HO580 := n2_; have HB := n3_; clear n0_ n1_ n2_ n3_; (try clear hb); (try clear hb2); (try clear hk); (try clear hi); (try clear ho0); obtain ⟨Ao31, co31, eo31⟩ := Kd.R_slice HO580.out; subst eo31) | ((with_reducible refine gate_builtin (b := .append) (xs := #[.tmp 89, .tmp 90]) rfl ?_); (try (refine gate_guard (by rfl) ?_; dsimp only)); at_builtin; refine Kd.R_append_rows (Kd.int .u8) (w0 := w) w.heap.size rfl (.tmp 89) (.tmp 90) 23 5 (.int .u8 0) 1 rfl Try.underlying23 info5 rfl (by decide) (by omega) u9 x9_3 t577 _ _ _ (fun k_ => some k_ ≠ (v574 : Value).ownBlock ∧ some k_ ≠ (.slice Ao31 t577.length co31 : Value).ownBlock) (fun _ => False) rfl rfl ?aO ?aR (fun _ _ h => h) (fun _ h => h.elim) ?aF ?aB ?aS ?aL ?_; (case aR => repeat (first | exact (Kd.R_reads' HO580.out).2.2 | (with_reducible refine Kd.C_alloc ?_ _) | (with_reducible refine Kd.C_drewN ?_ _) | (with_reducible refine Kd.C_drew ?_))); (case aB => exact (by repeat (first | (with_reducible first | exact HB.out | apply below_alloc | apply pw_below_drewN | apply below_drew1) | exact HB.out))); (case aF => exact (fun k_ hk => ⟨Kd.fresh' (Kd.R_lt (by (with_reducible repeat (first | apply Kd.R_alloc | apply Kd.R_drewN | apply Kd.R_drew)); exact HO_7.out)) k_ hk, Kd.fresh' (Kd.R_lt (by (with_reducible repeat (first | apply Kd.R_alloc | apply Kd.R_drewN | apply Kd.R_drew)); exact HO580.out)) k_ hk⟩)); (case aO => exact (by (with_reducible repeat (first | apply Kd.R_alloc | apply Kd.R_drewN | apply Kd.R_drew)); exact HO_9.out)); (case aS => exact (below_size (by repeat (first | (with_reducible first | exact HB.out | apply below_alloc | apply pw_below_drewN | apply below_drew1) | exact HB.out)))); (case aL => have := LMc28.out; omega); intro v582 w30 ho hb hg hat; rw [← Ny581.out] at ho; have n0_ := Aside0.mk (Kd.R_after (ok := (fun k_ => some k_ ≠ (.slice Ao31 t577.length co31 : Value).ownBlock)) (by (with_reducible repeat (first | apply Kd.R_alloc | apply Kd.R_drewN | apply Kd.R_drew)); exact Kd.R_mono HO_7.out (fun _ hk => ⟨hk.2, hk.1⟩)) hg hat); have n1_ := Aside0.mk (Kd.R_after (ok := (fun k_ => some k_ ≠ (v574 : Value).ownBlock)) (by (with_reducible repeat (first | apply Kd.R_alloc | apply Kd.R_drewN | apply Kd.R_drew)); exact Kd.R_mono HO580.out (fun _ hk => ⟨hk.1.2, hk.2⟩)) hg hat); have n2_ := Aside0.mk (hb); have n3_ := Aside0.mk (ho); clear HO_7; clear HO580; clear HB; clear HO_9; have HO_7 := n0_; have HO580 := n1_; have HB := n2_; have HO583 := n3_; clear n0_ n1_ n2_ n3_; clear ho hb hg hat))
                          go_roundg k3
                          case measure => have := HJ2.out; have := HJ8.out; have := HK3.out; omega
                          case rel => exact ⟨(y581), (wrap64 (x10_3 + 1)), (by first | rfl | (simp; done) | (simp [*]; done)), H', ⟨by have := HJ2.out; have := HJ8.out; have := HK3.out; omega⟩, ⟨by (with_reducible repeat (first | apply Kd.R_alloc | apply Kd.R_drewN | apply Kd.R_drew)); exact Kd.R_mono HO_7.out (fun _ hk => hk.2)⟩, ⟨by (with_reducible repeat (first | apply Kd.R_alloc | apply Kd.R_drewN | apply Kd.R_drew)); exact Kd.R_mono HO583.out (fun _ hk => hk.1)⟩, ⟨by repeat (first | (with_reducible first | exact HB.out | apply below_alloc | apply pw_below_drewN | apply below_drew1) | exact HB.out)⟩⟩
                        · rw [if_neg c28] at H
                          exact absurd H (by simp)
                      · rw [if_neg c27] at H
                        have c27b0 : (t578 == 0) = false := beq_eq_false_iff_ne.mpr c27
                        have c27b1 : (t578 != 0) = true := bne_iff_ne.mpr c27
                        by_cases c32 : t573 = 2
                        · rw [if_pos c32] at H
                          have c32b0 : (t573 == 2) = true := beq_iff_eq.mpr c32
                          have c32b1 : (t573 != 2) = false := bne_eq_false_iff_eq.mpr c32
                          clear c32
                          by_cases c33 : (t572.length : Int) = 0
                          · rw [if_pos c33] at H
                            have c33b0 : ((t572.length : Int) == 0) = true := beq_iff_eq.mpr c33
                            have c33b1 : ((t572.length : Int) != 0) = false := bne_eq_false_iff_eq.mpr c33
                            clear c33
                            replace H := Option.bind_eq_some_iff.mp H
                            obtain ⟨t584, A340, H⟩ := H
                            replace H : (some t584) = some r := H
                            have A34 := Aside0.mk A340
                            clear A340
                            obtain rfl := Option.some.inj H
                            have p576 : 0 ≤ (x10_3 : Int) := of_decide_eq_true (by first | (with_reducible assumption) | assumption)
                            have q576 : x10_3 < (l1.length : Int) := of_decide_eq_true (by first | (with_reducible assumption) | assumption)
                            obtain ⟨ad576, e576, hx576_0⟩ := Kd.at_int HR1.out x10_3 p576 q576
                            cases e576
                            replace hx576_0 := (HB.out.cell (World.block_lt_of_cell? w _ hx576_0)).trans hx576_0
                            replace p576 := eq_true p576
                            replace q576 := eq_true q576
                            go_wp2_with (first | ((with_reducible refine gate_callee (f := 10) rfl ?_); refine goesL_ (some 74) rfl rfl Try.func10 (by kernel_rfl) rfl #[.int .i64 (rd l1 x10_3)] rfl (by (try simp only [List.map_toArray, List.map_cons, List.map_nil]); first | done | rfl | (simp only [List.length_drop, List.length_take]; rfl)) ?_; (with_reducible refine (num_Put.calls (rd l1 x10_3) t577 t578 _ A26.out).mono ?_); rintro e w35 ⟨v579, rfl, ho0, hb⟩; refine ⟨_, rfl, ?_⟩; have n0_ := Aside0.mk (Kd.R_elder' (by (with_reducible repeat (first | apply Kd.R_alloc | apply Kd.R_drewN | apply Kd.R_drew)); exact HO_7.out) (Kd.R_base ho0) hb); have n1_ := Aside0.mk (Kd.R_elder' (by (with_reducible repeat (first | apply Kd.R_alloc | apply Kd.R_drewN | apply Kd.R_drew)); exact HO_9.out) (Kd.R_base ho0) hb); have n2_ := Aside0.mk (Kd.R_lower (Kd.R_new' (Kd.R_new' ho0 (Kd.R_lt (by (with_reducible repeat (first | apply Kd.R_alloc | apply Kd.R_drewN | apply Kd.R_drew)); exact HO_7.out))) (Kd.R_lt (by (with_reducible repeat (first | apply Kd.R_alloc | apply Kd.R_drewN | apply Kd.R_drew)); exact HO_9.out))) (below_size (by repeat (first | (with_reducible first | exact HB.out | apply below_alloc | apply pw_below_drewN | apply below_drew1) | exact HB.out)))); have n3_ := Aside0.mk (below_step (by repeat (first | (with_reducible first | exact HB.out | apply below_alloc | apply pw_below_drewN | apply below_drew1) | exact HB.out)) hb); clear HO_7; clear HO_9; clear HB; have HO_7 := n0_; have HO_9 := n1_; have HO580 := n2_; have HB := n3_; clear n0_ n1_ n2_ n3_; (try clear hb); (try clear hb2); (try clear hk); (try clear hi); (try clear ho0); obtain ⟨Ao36, co36, eo36⟩ := Kd.R_slice HO_7.out; subst eo36) | (go_at_call 9; (with_reducible refine (garlandlaw01_wakes.calls k3  t584 _ A34.out).mono ?_); rintro e w37 ⟨rfl, hb⟩; have n0_ := Aside0.mk (Kd.R_below (by (with_reducible repeat (first | apply Kd.R_alloc | apply Kd.R_drewN | apply Kd.R_drew)); exact HO_7.out) hb); have n1_ := Aside0.mk (Kd.R_below (by (with_reducible repeat (first | apply Kd.R_alloc | apply Kd.R_drewN | apply Kd.R_drew)); exact HO_9.out) hb); have n2_ := Aside0.mk (Kd.R_below (by (with_reducible repeat (first | apply Kd.R_alloc | apply Kd.R_drewN | apply Kd.R_drew)); exact HO580.out) hb); have n3_ := Aside0.mk (below_step (by repeat (first | (with_reducible first | exact HB.out | apply below_alloc | apply pw_below_drewN | apply below_drew1) | exact HB.out)) hb); clear HO_7; clear HO_9; clear HO580; clear HB; have HO_7 := n0_; have HO_9 := n1_; have HO580 := n2_; have HB := n3_; clear n0_ n1_ n2_ n3_; (try clear hb); (try clear hb2); (try clear hk); (try clear hi)))
                            go_ret
                            exact ⟨by first | rfl | (simp [errW_none, errW_some] <;> rfl) | (simp [*, errW_none, errW_some] <;> rfl), by repeat (first | (with_reducible first | exact HB.out | apply below_alloc | apply pw_below_drewN | apply below_drew1) | exact HB.out)⟩
                          · rw [if_neg c33] at H
                            exact absurd H (by simp)
                        · rw [if_neg c32] at H
                          exact absurd H (by simp)
                    · rw [if_neg c25] at H
                      exact absurd H (by simp)
                  · rw [if_neg c24] at H
                    have c24b0 : decide (x10_3 < (l1.length : Int)) = false := decide_eq_false c24
                    clear c24
                    have HC38 := Aside0.mk H
                    clear H
                    go_upto_region 15 with (fail)
                    go_cut [117] (fun v117 wc => ∃ (kq : Nat) (x117_37 : Bool), v117 = .bool x117_37 ∧ Aside0 (garlandlaw01_NumParts.j3 kq l1 x9_3 x117_37 = some r) ∧ Aside0 (kq ≤ k3) ∧ Aside0 (Kd.R (Kd.int .u8) 5 wc w.heap.size (fun _ => True) u9 x9_3) ∧ Aside0 (Below w.heap.size w wc))
                    case first =>
                      have H := HC38.out
                      clear HC38
                      by_cases c39 : t573 = 0
                      · rw [if_pos c39] at H
                        have c39b0 : (t573 == 0) = true := beq_iff_eq.mpr c39
                        have c39b1 : (t573 != 0) = false := bne_eq_false_iff_eq.mpr c39
                        clear c39
                        (first | rw [c39b0] | (simp only [i64_w, i32_w]; rw [c39b0]) | skip)
                        by_cases c40 : (t572.length : Int) = (wrap64 ((x9_3.length : Int) + 1))
                        · rw [if_pos c40] at H
                          have c40b0 : ((t572.length : Int) == (wrap64 ((x9_3.length : Int) + 1))) = true := beq_iff_eq.mpr c40
                          have c40b1 : ((t572.length : Int) != (wrap64 ((x9_3.length : Int) + 1))) = false := bne_eq_false_iff_eq.mpr c40
                          clear c40
                          by_cases c41 : 0 < (t572.length : Int)
                          · rw [if_pos c41] at H
                            have c41b0 : decide (0 < (t572.length : Int)) = true := decide_eq_true c41
                            have c41b1 : decide (0 < t572.length) = true := decide_eq_true (by omega)
                            clear c41
                            by_cases c42 : (wrap64 (rd t572 0)) = (l1.length : Int)
                            · rw [if_pos c42] at H
                              have c42b0 : ((wrap64 (rd t572 0)) == (l1.length : Int)) = true := beq_iff_eq.mpr c42
                              have c42b1 : ((wrap64 (rd t572 0)) != (l1.length : Int)) = false := bne_eq_false_iff_eq.mpr c42
                              clear c42
                              by_cases c43 : 1 ≤ (t572.length : Int)
                              · rw [if_pos c43] at H
                                have c43b0 := eq_true c43
                                have c43b1 : decide (1 ≤ (t572.length : Int)) = true := decide_eq_true c43
                                clear c43
                                obtain ⟨y586, hy586⟩ : ∃ y_ : List Int, y_ = (t572.drop 1) := ⟨_, rfl⟩
                                replace H : ((garlandlaw01_same.f y586 x9_3).bind fun t590 => (garlandlaw01_NumParts.j3 k3 l1 x9_3 (!t590))) = some r := by first | (rw [hy586]; with_reducible exact H) | (have H2_ := (Option.bind_some _ _).symm.trans H; rw [hy586]; with_reducible exact H2_) | (have H2_ := (Option.bind_some _ _).symm.trans H; with_reducible exact H2_) | with_reducible exact H | (rw [hy586]; exact H) | exact H
                                have Ny586 := Aside0.mk hy586
                                clear hy586
                                replace H := Option.bind_eq_some_iff.mp H
                                obtain ⟨t590, A440, H⟩ := H
                                replace H : (garlandlaw01_NumParts.j3 k3 l1 x9_3 (!t590)) = some r := H
                                have A44 := Aside0.mk A440
                                clear A440
                                have H' := Aside0.mk H
                                clear H
                                obtain ⟨Ao45, co45, eo45⟩ := Kd.R_slice HO_7.out
                                subst eo45
                                obtain ⟨Ao46, co46, eo46⟩ := Kd.R_slice HO_9.out
                                subst eo46
                                have p585 : 0 ≤ (0 : Int) := (by omega)
                                have q585 : 0 < (t572.length : Int) := of_decide_eq_true (by first | (with_reducible assumption) | assumption)
                                obtain ⟨ad585, e585, hx585_0⟩ := Kd.at_int (Kd.R_reads' HO_7.out).2.2 0 p585 q585
                                cases e585
                                have qi585 : (0 < t572.length) = True := eq_true (by omega)
                                (try rw [show ((0 : Int)).toNat = 0 from rfl] at hx585_0)
                                (try rw [Addr.add_zero'] at hx585_0)
                                replace p585 := eq_true p585
                                replace q585 := eq_true q585
                                have q47 : (1 : Int) ≤ ((t572.length : Int) : Int) := of_decide_eq_true (by first | (with_reducible assumption) | assumption)
                                obtain ⟨i047, hi047, _, hsz47, _⟩ := info_parts info5
                                have hroom47 : t572.length ≤ co45 := (Kd.R_reads' HO_7.out).2.1
                                have hC47 : Kd.C (Kd.int .u8) _ (some ad585) t572.length t572 := (Kd.R_reads' HO_7.out).2.2
                                have hcut47 := cut_from (P := Try.prog) 23 5 .i64 Try.underlying23 hi047 1 hsz47 (some ad585) t572.length co45 1 (by omega) q47
                                have hr47 := Kd.C_drop (m := (1 : Int).toNat) (c := co45) hC47 (by omega) hroom47
                                obtain ⟨A47, hA47⟩ : ∃ A1, A1 = (if co45 = (1 : Int).toNat then (some ad585) else ((some ad585) : Option Addr).map (·.add ((1 : Int).toNat * 1))) := ⟨_, rfl⟩
                                obtain ⟨c47, hc47⟩ : ∃ c1, c1 = co45 - (1 : Int).toNat := ⟨_, rfl⟩
                                have hy47 : y586.length = t572.length - (1 : Int).toNat := (by rw [Ny586.out, List.length_drop] <;> omega)
                                rw [show (t572).drop (1 : Int).toNat = y586 from Ny586.out.symm] at hr47
                                replace hr47 : Kd.C (Kd.int .u8) _ A47 y586.length y586 := (by rw [hA47]; exact hr47)
                                rw [← hy47, ← hA47, ← hc47] at hcut47
                                have HR589 := Aside0.mk hr47
                                have HC589 := Aside0.mk (show y586.length ≤ c47 from by rw [hy47, hc47]; exact Nat.sub_le_sub_right hroom47 _)
                                clear hr47 hC47 hroom47 hi047 hsz47 hc47
                                have KY47 := Aside0.mk hy47
                                have KA47 := Aside0.mk hA47
                                clear hy47 hA47
                                have KL47 := Aside0.mk (show 1 ≤ t572.length from by omega)
                                replace q47 := eq_true q47
                                go_wp2_with (first | (go_at_call 14; (with_reducible refine (garlandlaw01_same.calls _ _ y586 _ _ x9_3 t590 _ ?side1 ?side2 ?side3 ?side4 A44.out).mono ?_); (case side1 => repeat (first | exact (by repeat (first | (with_reducible exact HR589.out) | (with_reducible refine Kd.C_alloc ?_ _) | (with_reducible refine Kd.C_drewN ?_ _) | (with_reducible refine Kd.C_drew ?_) | exact HR589.out)) | (with_reducible refine Kd.C_alloc ?_ _) | (with_reducible refine Kd.C_drewN ?_ _) | (with_reducible refine Kd.C_drew ?_))); (case side2 => exact HC589.out); (case side3 => repeat (first | exact (Kd.R_reads' HO_9.out).2.2 | (with_reducible refine Kd.C_alloc ?_ _) | (with_reducible refine Kd.C_drewN ?_ _) | (with_reducible refine Kd.C_drew ?_))); (case side4 => exact (Kd.R_reads' HO_9.out).2.1); rintro e w' ⟨rfl, ⟨nd, rfl⟩⟩))
                                go_meet
                                case rel => exact ⟨_, (!t590), (by first | rfl | (simp; done) | (simp [*]; done)), H', ⟨by have := HJ2.out; have := HJ8.out; have := HK3.out; first | omega | exact Nat.le_refl _⟩, ⟨by (with_reducible repeat (first | apply Kd.R_alloc | apply Kd.R_drewN | apply Kd.R_drew)); exact Kd.R_mono HO_9.out (fun _ hk => trivial)⟩, ⟨by repeat (first | (with_reducible first | exact HB.out | apply below_alloc | apply pw_below_drewN | apply below_drew1) | exact HB.out)⟩⟩
                              · rw [if_neg c43] at H
                                exact absurd H (by simp)
                            · rw [if_neg c42] at H
                              have c42b0 : ((wrap64 (rd t572 0)) == (l1.length : Int)) = false := beq_eq_false_iff_ne.mpr c42
                              have c42b1 : ((wrap64 (rd t572 0)) != (l1.length : Int)) = true := bne_iff_ne.mpr c42
                              have H' := Aside0.mk H
                              clear H
                              obtain ⟨Ao48, co48, eo48⟩ := Kd.R_slice HO_7.out
                              subst eo48
                              obtain ⟨Ao49, co49, eo49⟩ := Kd.R_slice HO_9.out
                              subst eo49
                              have p585 : 0 ≤ (0 : Int) := (by omega)
                              have q585 : 0 < (t572.length : Int) := of_decide_eq_true (by first | (with_reducible assumption) | assumption)
                              obtain ⟨ad585, e585, hx585_0⟩ := Kd.at_int (Kd.R_reads' HO_7.out).2.2 0 p585 q585
                              cases e585
                              have qi585 : (0 < t572.length) = True := eq_true (by omega)
                              (try rw [show ((0 : Int)).toNat = 0 from rfl] at hx585_0)
                              (try rw [Addr.add_zero'] at hx585_0)
                              replace p585 := eq_true p585
                              replace q585 := eq_true q585
                              go_wp2
                              go_meet
                              case rel => exact ⟨_, (true), (by first | rfl | (simp; done) | (simp [*]; done)), H', ⟨by have := HJ2.out; have := HJ8.out; have := HK3.out; first | omega | exact Nat.le_refl _⟩, ⟨by (with_reducible repeat (first | apply Kd.R_alloc | apply Kd.R_drewN | apply Kd.R_drew)); exact Kd.R_mono HO_9.out (fun _ hk => trivial)⟩, ⟨by repeat (first | (with_reducible first | exact HB.out | apply below_alloc | apply pw_below_drewN | apply below_drew1) | exact HB.out)⟩⟩
                          · rw [if_neg c41] at H
                            exact absurd H (by simp)
                        · rw [if_neg c40] at H
                          have c40b0 : ((t572.length : Int) == (wrap64 ((x9_3.length : Int) + 1))) = false := beq_eq_false_iff_ne.mpr c40
                          have c40b1 : ((t572.length : Int) != (wrap64 ((x9_3.length : Int) + 1))) = true := bne_iff_ne.mpr c40
                          have H' := Aside0.mk H
                          clear H
                          obtain ⟨Ao50, co50, eo50⟩ := Kd.R_slice HO_7.out
                          subst eo50
                          obtain ⟨Ao51, co51, eo51⟩ := Kd.R_slice HO_9.out
                          subst eo51
                          go_wp2
                          go_meet
                          case rel => exact ⟨_, (true), (by first | rfl | (simp; done) | (simp [*]; done)), H', ⟨by have := HJ2.out; have := HJ8.out; have := HK3.out; first | omega | exact Nat.le_refl _⟩, ⟨by (with_reducible repeat (first | apply Kd.R_alloc | apply Kd.R_drewN | apply Kd.R_drew)); exact Kd.R_mono HO_9.out (fun _ hk => trivial)⟩, ⟨by repeat (first | (with_reducible first | exact HB.out | apply below_alloc | apply pw_below_drewN | apply below_drew1) | exact HB.out)⟩⟩
                      · rw [if_neg c39] at H
                        have c39b0 : (t573 == 0) = false := beq_eq_false_iff_ne.mpr c39
                        have c39b1 : (t573 != 0) = true := bne_iff_ne.mpr c39
                        (first | rw [c39b0] | (simp only [i64_w, i32_w]; rw [c39b0]) | skip)
                        have H' := Aside0.mk H
                        clear H
                        go_wp2
                        go_meet
                        case rel => exact ⟨_, (true), (by first | rfl | (simp; done) | (simp [*]; done)), H', ⟨by have := HJ2.out; have := HJ8.out; have := HK3.out; first | omega | exact Nat.le_refl _⟩, ⟨by (with_reducible repeat (first | apply Kd.R_alloc | apply Kd.R_drewN | apply Kd.R_drew)); exact Kd.R_mono HO_9.out (fun _ hk => trivial)⟩, ⟨by repeat (first | (with_reducible first | exact HB.out | apply below_alloc | apply pw_below_drewN | apply below_drew1) | exact HB.out)⟩⟩
                    case rest =>
                      clear HC38
                      try clear c1
                      try clear q1
                      try clear hcv1
                      try clear c2
                      try clear p2
                      try clear c3
                      try clear c4
                      try clear c4b0
                      try clear c4b1
                      try clear q4
                      try clear c5
                      try clear p5
                      try clear q5
                      try clear hx5
                      try clear qi5
                      try clear p6
                      try clear c8
                      try clear c9
                      try clear c10
                      try clear c11
                      try clear c11b0
                      try clear c11b1
                      try clear c12
                      try clear c12b0
                      try clear c12b1
                      try clear c13
                      try clear c13b0
                      try clear c13b1
                      try clear c14
                      try clear c14b0
                      try clear c14b1
                      try clear c15
                      try clear c15b0
                      try clear c15b1
                      try clear c17
                      try clear q17
                      try clear hcv18
                      try clear c21
                      try clear c24
                      try clear c24b0
                      try clear c25
                      try clear c25b0
                      try clear c27
                      try clear c27b0
                      try clear c27b1
                      try clear c28
                      try clear c32
                      try clear c32b0
                      try clear c32b1
                      try clear c33
                      try clear c33b0
                      try clear c33b1
                      try clear c39
                      try clear c39b0
                      try clear c39b1
                      try clear c40
                      try clear c40b0
                      try clear c40b1
                      try clear c41
                      try clear c41b0
                      try clear c41b1
                      try clear c42
                      try clear c42b0
                      try clear c42b1
                      try clear c43
                      try clear c43b0
                      try clear c43b1
                      try clear c47
                      try clear q47
                      try clear hx567_0
                      try clear hx576_0
                      try clear hx585_0
                      try clear p2
                      try clear p5
                      try clear p567
                      try clear p576
                      try clear p585
                      try clear p6
                      try clear q1
                      try clear q17
                      try clear q47
                      try clear q5
                      try clear q567
                      try clear q576
                      try clear q585
                      obtain ⟨kq, x117_37, rfl, HA, HJ37, HO_9, HB⟩ := hcut
                      cases kq with
                      | zero => exact absurd HA.out (by simp [garlandlaw01_NumParts.j3])
                      | succ kj37 =>
                        have H := HA.out
                        clear HA
                        simp only [garlandlaw01_NumParts.j3] at H
                        by_cases c52 : x117_37 = true
                        · subst c52
                          have H1 : (none) = some r := by rw [if_pos rfl] at H; exact H
                          clear H
                          have H := H1
                          clear H1
                          exact absurd H (by simp)
                        · replace c52 := Bool.eq_false_iff.mpr c52
                          subst c52
                          have H1 : (garlandlaw01_NumParts.l1 kj37 l1 x9_3 0) = some r := by rw [if_neg (show ¬ (false = true) by decide)] at H; exact H
                          clear H
                          have H := H1
                          clear H1
                          have H' := Aside0.mk H
                          clear H
                          go_wp2
                          go_loopg [13, 14] kj37 (fun kq v13 v14 w' => ∃ (x13_5 : List Int) (x14_5 : Int), v14 = .int .i64 x14_5 ∧ Aside0 (garlandlaw01_NumParts.l1 kq l1 x13_5 x14_5 = some r) ∧ Aside0 (kq ≤ kj37) ∧ Aside0 (Kd.R (Kd.int .u8) 5 w' w.heap.size (fun _ => True) v13 x13_5) ∧ Aside0 (Below w.heap.size w w'))
                          case atStart => exact ⟨(x9_3), (0), (by first | rfl | (simp; done) | (simp [*]; done)), H', ⟨Nat.le_refl _⟩, ⟨by (with_reducible repeat (first | apply Kd.R_alloc | apply Kd.R_drewN | apply Kd.R_drew)); exact HO_9.out⟩, ⟨by repeat (first | (with_reducible first | exact HB.out | apply below_alloc | apply pw_below_drewN | apply below_drew1) | exact HB.out)⟩⟩
                          case round =>
                            clear H'
                            try clear c1
                            try clear q1
                            try clear hcv1
                            try clear c2
                            try clear p2
                            try clear c3
                            try clear c4
                            try clear c4b0
                            try clear c4b1
                            try clear q4
                            try clear c5
                            try clear p5
                            try clear q5
                            try clear hx5
                            try clear qi5
                            try clear p6
                            try clear c8
                            try clear c9
                            try clear c10
                            try clear c11
                            try clear c11b0
                            try clear c11b1
                            try clear c12
                            try clear c12b0
                            try clear c12b1
                            try clear c13
                            try clear c13b0
                            try clear c13b1
                            try clear c14
                            try clear c14b0
                            try clear c14b1
                            try clear c15
                            try clear c15b0
                            try clear c15b1
                            try clear c17
                            try clear q17
                            try clear hcv18
                            try clear c21
                            try clear c24
                            try clear c24b0
                            try clear c25
                            try clear c25b0
                            try clear c27
                            try clear c27b0
                            try clear c27b1
                            try clear c28
                            try clear c32
                            try clear c32b0
                            try clear c32b1
                            try clear c33
                            try clear c33b0
                            try clear c33b1
                            try clear c39
                            try clear c39b0
                            try clear c39b1
                            try clear c40
                            try clear c40b0
                            try clear c40b1
                            try clear c41
                            try clear c41b0
                            try clear c41b1
                            try clear c42
                            try clear c42b0
                            try clear c42b1
                            try clear c43
                            try clear c43b0
                            try clear c43b1
                            try clear c47
                            try clear q47
                            try clear c52
                            try clear hx567_0
                            try clear hx576_0
                            try clear hx585_0
                            try clear p2
                            try clear p5
                            try clear p567
                            try clear p576
                            try clear p585
                            try clear p6
                            try clear q1
                            try clear q17
                            try clear q4
                            try clear q47
                            try clear q5
                            try clear q567
                            try clear q576
                            try clear q585
                            obtain ⟨x13_5, x14_5, rfl, HA, HK5, HO_13, HB⟩ := hrel
                            cases gk with
                            | zero => exact absurd HA.out (by simp [garlandlaw01_NumParts.l1])
                            | succ k5 =>
                              have H := HA.out
                              clear HA
                              simp only [garlandlaw01_NumParts.l1] at H
                              by_cases c53 : x14_5 < (l1.length : Int)
                              · rw [if_pos c53] at H
                                have c53b0 : decide (x14_5 < (l1.length : Int)) = true := decide_eq_true c53
                                clear c53
                                replace H := Option.bind_eq_some_iff.mp H
                                obtain ⟨⟨t591, t592, t593⟩, A540, H⟩ := H
                                replace H : (if t593 = 0 then (if 0 ≤ x14_5 then (if t591 = (rd l1 x14_5) then (if (t592.length : Int) ≥ (x13_5.length : Int) then (none) else (garlandlaw01_NumParts.l1 k5 l1 t592 (wrap64 (x14_5 + 1)))) else (none)) else (none)) else (none)) = some r := H
                                have A54 := Aside0.mk A540
                                clear A540
                                by_cases c55 : t593 = 0
                                · rw [if_pos c55] at H
                                  have c55b0 : (t593 == 0) = true := beq_iff_eq.mpr c55
                                  have c55b1 : (t593 != 0) = false := bne_eq_false_iff_eq.mpr c55
                                  clear c55
                                  by_cases c56 : 0 ≤ x14_5
                                  · rw [if_pos c56] at H
                                    have c56b0 : decide (0 ≤ x14_5) = true := decide_eq_true c56
                                    clear c56
                                    by_cases c57 : t591 = (rd l1 x14_5)
                                    · rw [if_pos c57] at H
                                      have c57b0 : (t591 == (rd l1 x14_5)) = true := beq_iff_eq.mpr c57
                                      have c57b1 : (t591 != (rd l1 x14_5)) = false := bne_eq_false_iff_eq.mpr c57
                                      clear c57
                                      by_cases c58 : (t592.length : Int) ≥ (x13_5.length : Int)
                                      · rw [if_pos c58] at H
                                        exact absurd H (by simp)
                                      · rw [if_neg c58] at H
                                        have c58b0 : decide ((x13_5.length : Int) ≤ (t592.length : Int)) = false := decide_eq_false c58
                                        have c58b1 : decide (x13_5.length ≤ t592.length) = false := decide_eq_false (fun h => c58 (Int.ofNat_le.mpr h))
                                        clear c58
                                        have H' := Aside0.mk H
                                        clear H
                                        obtain ⟨Ao59, co59, eo59⟩ := Kd.R_slice HO_13.out
                                        subst eo59
                                        go_wp2_with (first | ((with_reducible refine gate_callee (f := 17) rfl ?_); refine goesL_ (some 127) rfl rfl Try.func17 (by kernel_rfl) rfl #[.slice Ao59 x13_5.length co59] rfl (by (try simp only [List.map_toArray, List.map_cons, List.map_nil]); first | done | rfl | (simp only [List.length_drop, List.length_take]; rfl)) ?_; (with_reducible refine (num_Take.calls _ _ x13_5 t591 t592 t593 _ ?side1 ?side2 A54.out).mono ?_); (case side1 => repeat (first | exact (Kd.R_reads' HO_13.out).2.2 | (with_reducible refine Kd.C_alloc ?_ _) | (with_reducible refine Kd.C_drewN ?_ _) | (with_reducible refine Kd.C_drew ?_))); (case side2 => exact (Kd.R_reads' HO_13.out).2.1); rintro e w60 ⟨v594, rfl, ho0, hb⟩; refine ⟨_, rfl, ?_⟩; have n0_ := Aside0.mk (Kd.R_elder' (by (with_reducible repeat (first | apply Kd.R_alloc | apply Kd.R_drewN | apply Kd.R_drew)); exact HO_13.out) (Kd.R_base ho0) hb); have n1_ := Aside0.mk (Kd.R_lower (Kd.R_new' ho0 (Kd.R_lt (by (with_reducible repeat (first | apply Kd.R_alloc | apply Kd.R_drewN | apply Kd.R_drew)); exact HO_13.out))) (below_size (by repeat (first | (with_reducible first | exact HB.out | apply below_alloc | apply pw_below_drewN | apply below_drew1) | exact HB.out)))); have n2_ := Aside0.mk (below_step (by repeat (first | (with_reducible first | exact HB.out | apply below_alloc | apply pw_below_drewN | apply below_drew1) | exact HB.out)) hb); clear HO_13; clear HB; have HO_13 := n0_; have HO595 := n1_; have HB := n2_; clear n0_ n1_ n2_; (try clear hb); (try clear hb2); (try clear hk); (try clear hi); (try clear ho0); have p596 : 0 ≤ (x14_5 : Int) := of_decide_eq_true (by first | (with_reducible assumption) | assumption); have q596 : x14_5 < (l1.length : Int) := of_decide_eq_true (by first | (with_reducible assumption) | assumption); obtain ⟨ad596, e596, hx596_0⟩ := Kd.at_int HR1.out x14_5 p596 q596; cases e596; replace hx596_0 := (HB.out.cell (World.block_lt_of_cell? w _ hx596_0)).trans hx596_0; replace p596 := eq_true p596; replace q596 := eq_true q596; obtain ⟨Ao61, co61, eo61⟩ := Kd.R_slice HO595.out; subst eo61))
                                        go_roundg k5
                                        case measure => have := HJ2.out; have := HJ8.out; have := HK3.out; have := HJ37.out; have := HK5.out; omega
                                        case rel => exact ⟨(t592), (wrap64 (x14_5 + 1)), (by first | rfl | (simp; done) | (simp [*]; done)), H', ⟨by have := HJ2.out; have := HJ8.out; have := HK3.out; have := HJ37.out; have := HK5.out; omega⟩, ⟨by (with_reducible repeat (first | apply Kd.R_alloc | apply Kd.R_drewN | apply Kd.R_drew)); exact Kd.R_mono HO595.out (fun _ hk => trivial)⟩, ⟨by repeat (first | (with_reducible first | exact HB.out | apply below_alloc | apply pw_below_drewN | apply below_drew1) | exact HB.out)⟩⟩
                                    · rw [if_neg c57] at H
                                      exact absurd H (by simp)
                                  · rw [if_neg c56] at H
                                    exact absurd H (by simp)
                                · rw [if_neg c55] at H
                                  exact absurd H (by simp)
                              · rw [if_neg c53] at H
                                have c53b0 : decide (x14_5 < (l1.length : Int)) = false := decide_eq_false c53
                                clear c53
                                by_cases c62 : (x13_5.length : Int) = 0
                                · rw [if_pos c62] at H
                                  have c62b0 : ((x13_5.length : Int) == 0) = true := beq_iff_eq.mpr c62
                                  have c62b1 : ((x13_5.length : Int) != 0) = false := bne_eq_false_iff_eq.mpr c62
                                  clear c62
                                  replace H := Option.bind_eq_some_iff.mp H
                                  obtain ⟨t597, A630, H⟩ := H
                                  replace H : (some t597) = some r := H
                                  have A63 := Aside0.mk A630
                                  clear A630
                                  obtain rfl := Option.some.inj H
                                  obtain ⟨Ao64, co64, eo64⟩ := Kd.R_slice HO_13.out
                                  subst eo64
                                  go_wp2_with (first | (go_at_call 9; (with_reducible refine (garlandlaw01_wakes.calls k5  t597 _ A63.out).mono ?_); rintro e w65 ⟨rfl, hb⟩; have n0_ := Aside0.mk (Kd.R_below (by (with_reducible repeat (first | apply Kd.R_alloc | apply Kd.R_drewN | apply Kd.R_drew)); exact HO_13.out) hb); have n1_ := Aside0.mk (below_step (by repeat (first | (with_reducible first | exact HB.out | apply below_alloc | apply pw_below_drewN | apply below_drew1) | exact HB.out)) hb); clear HO_13; clear HB; have HO_13 := n0_; have HB := n1_; clear n0_ n1_; (try clear hb); (try clear hb2); (try clear hk); (try clear hi)))
                                  go_ret
                                  exact ⟨by first | rfl | (simp [errW_none, errW_some] <;> rfl) | (simp [*, errW_none, errW_some] <;> rfl), by repeat (first | (with_reducible first | exact HB.out | apply below_alloc | apply pw_below_drewN | apply below_drew1) | exact HB.out)⟩
                                · rw [if_neg c62] at H
                                  exact absurd H (by simp)

/-- THE ONE PURE STATEMENT of garlandlaw01_NumParts: yours. -/
def garlandlaw01_NumParts.Pure : Prop := ∀ (a0 : ByteArray) (l1 : List Int), a0.size ≤ 140737488351232 → l1.length ≤ maxLen → l1.length * 8 ≤ 140737488351232 → (∀ x ∈ l1, (Lit.int .i64 x).wf = true) → ∃ k, garlandlaw01_NumParts.f k a0 l1 = some true
theorem garlandlaw01_NumParts.walk (P : garlandlaw01_NumParts.Pure) (a0 : ByteArray) (a1 : Option Addr) (len1 cap1 : Nat) (z1 : List Int) (w : World) (w0 : a0.size ≤ 140737488351232) (w1 : (a1 = none ∧ len1 = 0 ∧ cap1 = 0 ∧ z1 = []) ∨ ∃ x, a1 = some x ∧ len1 ≤ cap1 ∧ cap1 ≤ maxLen ∧ z1.length = cap1 ∧ (∀ i, i < z1.length → w.cell? (x.add i) = some (.int .i64 (z1.getD i 0))) ∧ ∀ n ∈ z1, (Lit.int .i64 n).wf = true) (y1 : len1 * 8 ≤ 140737488351232) :
    Calls Try.prog 8 #[.string a0, .slice a1 len1 cap1] w fun e w' => e = .returned (.bool true) ∧ Below w.heap.size w w' := by
  obtain ⟨l1, rfl, hr1, hm1, hw1, hc1⟩ := ReadsInt.ofRowC w1
  obtain ⟨k, h⟩ := P a0 l1 w0 hm1 y1 hw1
  refine (garlandlaw01_NumParts.calls k a0 _ _ l1 true w (Kd.C_of_reads (d := (0 : Int)) (h1 := fun _ => rfl) hr1) hc1 h).mono ?_
  rintro e w' ⟨rfl, hd⟩
  exact ⟨rfl, hd⟩

end Go.Proofs.Ytnaohcimmafhkaa.G
