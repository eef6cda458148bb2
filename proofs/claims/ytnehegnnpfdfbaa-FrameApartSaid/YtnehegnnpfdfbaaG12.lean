/- What calls of the program's functions answer: contracts, printed by this session's program (wip/tools/gprint.py) or told by hand. -/
import Derived.Test.YtnehegnnpfdfbaaG0
import Derived.Test.YtnehegnnpfdfbaaG4
import Derived.Test.YtnehegnnpfdfbaaG6
import Derived.Test.YtnehegnnpfdfbaaG7
namespace Go.Proofs.Ytnehegnnpfdfbaa.G
open Go.RowKit Go.Proofs.YtnehegnnpfdfbaaW.PrintWords Go.Proofs.YtnehegnnpfdfbaaW.PrintLast Go.Proofs.YtnehegnnpfdfbaaW.PrintMore
attribute [local go_sem] max2_int min2_int max_two min_two max_three min_three max_four min_four   -- for this text's walks alone
set_option linter.unusedVariables false
set_option linter.unusedSimpArgs false

/-! ### garlandlaw05_FrameApart: function 8 -/
mutual
def garlandlaw05_FrameApart.j0 : Nat → List Int → List Int → Int → Bool → Option (Bool)
  | 0, _, _, _, _ => none
  | k + 1, x0, x1, x2, x21 => if x21 = true then ((garlandlaw05_wakes.f).bind fun t324 => (some t324)) else ((frame_Close.f x0).bind fun bt325 => ((frame_Close.f x1).bind fun bt329 => (if bt325.2 = 0 then (if bt329.2 = 0 then (if (bt325.1.length : Int) = (wrap64 ((x0.length : Int) + 8)) then (if (bt329.1.length : Int) = (wrap64 ((x1.length : Int) + 8)) then ((frame_Size.f (x0.length : Int)).bind fun t333 => (if (bt325.1.length : Int) = t333 then ((garlandlaw05_same.f bt325.1 bt329.1).bind fun t334 => ((garlandlaw05_same.f x0 x1).bind fun t335 => (garlandlaw05_FrameApart.j1 k x0 x1 x2 bt325.1 bt329.1 (t334 != t335)))) else (garlandlaw05_FrameApart.j1 k x0 x1 x2 bt325.1 bt329.1 true))) else (garlandlaw05_FrameApart.j1 k x0 x1 x2 bt325.1 bt329.1 true)) else (garlandlaw05_FrameApart.j1 k x0 x1 x2 bt325.1 bt329.1 true)) else (garlandlaw05_FrameApart.j1 k x0 x1 x2 bt325.1 bt329.1 true)) else (garlandlaw05_FrameApart.j1 k x0 x1 x2 bt325.1 bt329.1 true))))
def garlandlaw05_FrameApart.j1 : Nat → List Int → List Int → Int → List Int → List Int → Bool → Option (Bool)
  | 0, _, _, _, _, _, _ => none
  | k + 1, x0, x1, x2, x7, x9, x71 => if x71 = true then (none) else (if (x0.length : Int) = (x1.length : Int) then (garlandlaw05_FrameApart.j2 k x0 x1 x2 x7 x9 ((x0.length : Int) == 0)) else (garlandlaw05_FrameApart.j2 k x0 x1 x2 x7 x9 true))
def garlandlaw05_FrameApart.j2 : Nat → List Int → List Int → Int → List Int → List Int → Bool → Option (Bool)
  | 0, _, _, _, _, _, _ => none
  | k + 1, x0, x1, x2, x7, x9, x81 => if x81 = true then ((garlandlaw05_wakes.f).bind fun t336 => (some t336)) else (if (wrap64 ((x0.length : Int) + 1)) = 0 then (none) else ((some (([] : List Int) : List Int)).bind fun y337 => (if 0 ≤ (wrap64 (4 + (Int.tmod (wrap64 ((wrap64 ((Int.tmod x2 (wrap64 ((x0.length : Int) + 1))) + (x0.length : Int))) + 1)) (wrap64 ((x0.length : Int) + 1))))) then (if (wrap64 (4 + (Int.tmod (wrap64 ((wrap64 ((Int.tmod x2 (wrap64 ((x0.length : Int) + 1))) + (x0.length : Int))) + 1)) (wrap64 ((x0.length : Int) + 1))))) ≤ (x7.length : Int) then ((some (x7.take ((wrap64 (4 + (Int.tmod (wrap64 ((wrap64 ((Int.tmod x2 (wrap64 ((x0.length : Int) + 1))) + (x0.length : Int))) + 1)) (wrap64 ((x0.length : Int) + 1))))) : Int).toNat : List Int)).bind fun y340 => (if y337.length + y340.length < 140737488355328 then ((some (y337 ++ y340 : List Int)).bind fun y344 => (if (wrap64 (4 + (Int.tmod (wrap64 ((wrap64 ((Int.tmod x2 (wrap64 ((x0.length : Int) + 1))) + (x0.length : Int))) + 1)) (wrap64 ((x0.length : Int) + 1))))) ≤ (x9.length : Int) then ((some (x9.drop ((wrap64 (4 + (Int.tmod (wrap64 ((wrap64 ((Int.tmod x2 (wrap64 ((x0.length : Int) + 1))) + (x0.length : Int))) + 1)) (wrap64 ((x0.length : Int) + 1))))) : Int).toNat : List Int)).bind fun y347 => (if y344.length + y347.length < 140737488355328 then ((some (y344 ++ y347 : List Int)).bind fun y351 => ((frame_Open.f y351).bind fun bt354 => (if bt354.2 = 0 then (if 4 ≤ (wrap64 ((y351.length : Int) - 4)) then (if (wrap64 ((y351.length : Int) - 4)) ≤ (y351.length : Int) then ((garlandlaw05_same.f bt354.1 ((y351.take ((wrap64 ((y351.length : Int) - 4)) : Int).toNat).drop 4)).bind fun t362 => (if t362 = true then ((garlandlaw05_same.f x0 x1).bind fun t363 => (if t363 = true then ((garlandlaw05_wakes.f).bind fun t364 => (some t364)) else ((garlandlaw05_wakes.f).bind fun t365 => (some t365)))) else (none))) else (none)) else (none)) else ((garlandlaw05_same.f x0 x1).bind fun t366 => (if t366 = true then (none) else ((garlandlaw05_wakes.f).bind fun t367 => (some t367))))))) else (none))) else (none))) else (none))) else (none)) else (none))))
end
def garlandlaw05_FrameApart.f (k : Nat) (l0 : List Int) (l1 : List Int) (a2 : Int) : Option (Bool) := if (l0.length : Int) > 112 then (garlandlaw05_FrameApart.j0 k l0 l1 a2 true) else (garlandlaw05_FrameApart.j0 k l0 l1 a2 (decide ((l1.length : Int) > 112)))
theorem garlandlaw05_FrameApart.mono_l : ∀ k, (∀ y0 y1 y2 y3, LeO (garlandlaw05_FrameApart.j0 k y0 y1 y2 y3) (garlandlaw05_FrameApart.j0 (k + 1) y0 y1 y2 y3)) ∧ (∀ y0 y1 y2 y3 y4 y5, LeO (garlandlaw05_FrameApart.j1 k y0 y1 y2 y3 y4 y5) (garlandlaw05_FrameApart.j1 (k + 1) y0 y1 y2 y3 y4 y5)) ∧ (∀ y0 y1 y2 y3 y4 y5, LeO (garlandlaw05_FrameApart.j2 k y0 y1 y2 y3 y4 y5) (garlandlaw05_FrameApart.j2 (k + 1) y0 y1 y2 y3 y4 y5))
  | 0 => ⟨fun _ _ _ _ r h => by simp [garlandlaw05_FrameApart.j0] at h, fun _ _ _ _ _ _ r h => by simp [garlandlaw05_FrameApart.j1] at h, fun _ _ _ _ _ _ r h => by simp [garlandlaw05_FrameApart.j2] at h⟩
  | k + 1 => by
    obtain ⟨ih0, ih1, ih2⟩ := garlandlaw05_FrameApart.mono_l k
    refine ⟨?_, ?_, ?_⟩
    · intro y0 y1 y2 y3
      unfold garlandlaw05_FrameApart.j0
      repeat' first
      | (with_reducible exact ih0 _ _ _ _)
      | (with_reducible exact ih1 _ _ _ _ _ _)
      | (with_reducible exact ih2 _ _ _ _ _ _)
      | (with_reducible exact LeO.refl _)
      | (with_reducible exact LeO.none _)
      | (with_reducible refine LeO.ite ?_ ?_)
      | (with_reducible refine LeO.bind ?_ (fun _ => ?_))
      | exact ih0 _ _ _ _
      | exact ih1 _ _ _ _ _ _
      | exact ih2 _ _ _ _ _ _
      | exact LeO.none _
      | refine LeO.ite ?_ ?_
      | refine LeO.bind ?_ (fun _ => ?_)
    · intro y0 y1 y2 y3 y4 y5
      unfold garlandlaw05_FrameApart.j1
      repeat' first
      | (with_reducible exact ih0 _ _ _ _)
      | (with_reducible exact ih1 _ _ _ _ _ _)
      | (with_reducible exact ih2 _ _ _ _ _ _)
      | (with_reducible exact LeO.refl _)
      | (with_reducible exact LeO.none _)
      | (with_reducible refine LeO.ite ?_ ?_)
      | (with_reducible refine LeO.bind ?_ (fun _ => ?_))
      | exact ih0 _ _ _ _
      | exact ih1 _ _ _ _ _ _
      | exact ih2 _ _ _ _ _ _
      | exact LeO.none _
      | refine LeO.ite ?_ ?_
      | refine LeO.bind ?_ (fun _ => ?_)
    · intro y0 y1 y2 y3 y4 y5
      unfold garlandlaw05_FrameApart.j2
      repeat' first
      | (with_reducible exact ih0 _ _ _ _)
      | (with_reducible exact ih1 _ _ _ _ _ _)
      | (with_reducible exact ih2 _ _ _ _ _ _)
      | (with_reducible exact LeO.refl _)
      | (with_reducible exact LeO.none _)
      | (with_reducible refine LeO.ite ?_ ?_)
      | (with_reducible refine LeO.bind ?_ (fun _ => ?_))
      | exact ih0 _ _ _ _
      | exact ih1 _ _ _ _ _ _
      | exact ih2 _ _ _ _ _ _
      | exact LeO.none _
      | refine LeO.ite ?_ ?_
      | refine LeO.bind ?_ (fun _ => ?_)
theorem garlandlaw05_FrameApart.mono : ∀ a0 a1 a2 k, LeO (garlandlaw05_FrameApart.f k a0 a1 a2) (garlandlaw05_FrameApart.f (k + 1) a0 a1 a2) := by
  intro a0 a1 a2 k
  obtain ⟨ih0, ih1, ih2⟩ := garlandlaw05_FrameApart.mono_l k
  unfold garlandlaw05_FrameApart.f
  repeat' first
      | (with_reducible exact ih0 _ _ _ _)
      | (with_reducible exact ih1 _ _ _ _ _ _)
      | (with_reducible exact ih2 _ _ _ _ _ _)
      | (with_reducible exact LeO.refl _)
      | (with_reducible exact LeO.none _)
      | (with_reducible refine LeO.ite ?_ ?_)
      | (with_reducible refine LeO.bind ?_ (fun _ => ?_))
      | exact ih0 _ _ _ _
      | exact ih1 _ _ _ _ _ _
      | exact ih2 _ _ _ _ _ _
      | exact LeO.none _
      | refine LeO.ite ?_ ?_
      | refine LeO.bind ?_ (fun _ => ?_)
def garlandlaw05_FrameApart.T10 : Bool × List (List Nat × List Nat) := (true, [([], []), ([], []), ([], []), ([1, 2], [1, 2]), ([0, 3], [0, 3]), ([], []), ([], []), ([5, 6], [5, 6]), ([4, 7, 4], [4, 7]), ([8, 8, 0, 1, 2, 3, 4, 5, 6, 7, 8], [8])])
def garlandlaw05_FrameApart.B10 : List Nat := [0, 0, 0, 6, 15, 0, 0, 96, 255, 511]
theorem garlandlaw05_FrameApart.tab10 : rtab .any (opsOf Try.f8 10) = garlandlaw05_FrameApart.T10 := by kernel_rfl
theorem garlandlaw05_FrameApart.bits10 : waitsOk garlandlaw05_FrameApart.T10.2 garlandlaw05_FrameApart.B10 = true := by kernel_rfl
set_option maxHeartbeats 8000000 in
set_option maxRecDepth 100000 in
theorem garlandlaw05_FrameApart.calls (k : Nat) (A0 : Option Addr) (c0 : Nat) (l0 : List Int) (A1 : Option Addr) (c1 : Nat) (l1 : List Int) (a2 : Int) (r : Bool) (w : World) (hr0 : Kd.C (Kd.int .u8) w A0 l0.length l0) (hc0 : l0.length ≤ c0) (hr1 : Kd.C (Kd.int .u8) w A1 l1.length l1) (hc1 : l1.length ≤ c1) (h : garlandlaw05_FrameApart.f k l0 l1 a2 = some r) :
    Calls Try.prog 8 #[.slice A0 l0.length c0, .slice A1 l1.length c1, .int .i64 a2] w fun e w' => e = .returned (.bool r) ∧ Below w.heap.size w w' := by
  have HR0 := Aside0.mk hr0
  have HC0 := Aside0.mk hc0
  clear hr0 hc0
  have HR1 := Aside0.mk hr1
  have HC1 := Aside0.mk hc1
  clear hr1 hc1
  have HB := Aside0.mk (Below.refl w.heap.size w)
  have H : (if (l0.length : Int) > 112 then (garlandlaw05_FrameApart.j0 k l0 l1 a2 true) else (garlandlaw05_FrameApart.j0 k l0 l1 a2 (decide ((l1.length : Int) > 112)))) = some r := h
  clear h
  have HC4 := Aside0.mk H
  clear H
  go_enter Try.func8, Try.ntmps8
  go_upto_region 1 with (fail)
  go_cut [21] (fun v21 wc => ∃ (kq : Nat) (x21_3 : Bool), v21 = .bool x21_3 ∧ Aside0 (garlandlaw05_FrameApart.j0 kq l0 l1 a2 x21_3 = some r) ∧ Aside0 (kq ≤ k) ∧ Aside0 (Below w.heap.size w wc))
  case first =>
    have H := HC4.out
    clear HC4
    by_cases c5 : (l0.length : Int) > 112
    · rw [if_pos c5] at H
      have c5b0 : decide (112 < (l0.length : Int)) = true := decide_eq_true c5
      have c5b1 : decide (112 < l0.length) = true := decide_eq_true (by omega)
      clear c5
      (first | rw [c5b0] | (simp only [i64_w, i32_w]; rw [c5b0]) | skip)
      have H' := Aside0.mk H
      clear H
      go_wp2
      go_meet
      case rel => exact ⟨_, (true), (by first | rfl | (simp; done) | (simp [*]; done)), H', ⟨by first | omega | exact Nat.le_refl _⟩, ⟨by repeat (first | (with_reducible first | exact HB.out | apply below_alloc | apply pw_below_drewN | apply below_drew1) | exact HB.out)⟩⟩
    · rw [if_neg c5] at H
      have c5b0 : decide (112 < (l0.length : Int)) = false := decide_eq_false c5
      have c5b1 : decide (112 < l0.length) = false := decide_eq_false (by omega)
      clear c5
      (first | rw [c5b0] | (simp only [i64_w, i32_w]; rw [c5b0]) | skip)
      have H' := Aside0.mk H
      clear H
      go_wp2
      go_meet
      case rel => exact ⟨_, (decide ((l1.length : Int) > 112)), (by first | rfl | (simp; done) | (simp [*]; done)), H', ⟨by first | omega | exact Nat.le_refl _⟩, ⟨by repeat (first | (with_reducible first | exact HB.out | apply below_alloc | apply pw_below_drewN | apply below_drew1) | exact HB.out)⟩⟩
  case rest =>
    clear HC4
    try clear c1
    try clear p2
    try clear c5
    try clear c5b0
    try clear c5b1
    obtain ⟨kq, x21_3, rfl, HA, HJ3, HB⟩ := hcut
    cases kq with
    | zero => exact absurd HA.out (by simp [garlandlaw05_FrameApart.j0])
    | succ kj3 =>
      have H := HA.out
      clear HA
      simp only [garlandlaw05_FrameApart.j0] at H
      by_cases c6 : x21_3 = true
      · subst c6
        have H1 : ((garlandlaw05_wakes.f).bind fun t324 => (some t324)) = some r := by rw [if_pos rfl] at H; exact H
        clear H
        have H := H1
        clear H1
        replace H := Option.bind_eq_some_iff.mp H
        obtain ⟨t324, A70, H⟩ := H
        replace H : (some t324) = some r := H
        have A7 := Aside0.mk A70
        clear A70
        obtain rfl := Option.some.inj H
        go_wp2_with (first | ((with_reducible refine gate_callee (f := 9) rfl ?_); refine goesL_ (some 22) rfl rfl Try.func9 (by kernel_rfl) rfl #[] rfl (by (try simp only [List.map_toArray, List.map_cons, List.map_nil]); first | done | rfl | (simp only [List.length_drop, List.length_take]; rfl)) ?_; (with_reducible refine (garlandlaw05_wakes.calls  t324 _ A7.out).mono ?_); rintro e w8 ⟨rfl, hb⟩; refine ⟨_, rfl, ?_⟩; have n0_ := Aside0.mk (below_step (by repeat (first | (with_reducible first | exact HB.out | apply below_alloc | apply pw_below_drewN | apply below_drew1) | exact HB.out)) hb); clear HB; have HB := n0_; clear n0_; (try clear hb); (try clear hb2); (try clear hk); (try clear hi)))
        go_ret
        exact ⟨by first | rfl | (simp [errW_none, errW_some] <;> rfl) | (simp [*, errW_none, errW_some] <;> rfl), by repeat (first | (with_reducible first | exact HB.out | apply below_alloc | apply pw_below_drewN | apply below_drew1) | exact HB.out)⟩
      · replace c6 := Bool.eq_false_iff.mpr c6
        subst c6
        have H1 : ((frame_Close.f l0).bind fun bt325 => ((frame_Close.f l1).bind fun bt329 => (if bt325.2 = 0 then (if bt329.2 = 0 then (if (bt325.1.length : Int) = (wrap64 ((l0.length : Int) + 8)) then (if (bt329.1.length : Int) = (wrap64 ((l1.length : Int) + 8)) then ((frame_Size.f (l0.length : Int)).bind fun t333 => (if (bt325.1.length : Int) = t333 then ((garlandlaw05_same.f bt325.1 bt329.1).bind fun t334 => ((garlandlaw05_same.f l0 l1).bind fun t335 => (garlandlaw05_FrameApart.j1 kj3 l0 l1 a2 bt325.1 bt329.1 (t334 != t335)))) else (garlandlaw05_FrameApart.j1 kj3 l0 l1 a2 bt325.1 bt329.1 true))) else (garlandlaw05_FrameApart.j1 kj3 l0 l1 a2 bt325.1 bt329.1 true)) else (garlandlaw05_FrameApart.j1 kj3 l0 l1 a2 bt325.1 bt329.1 true)) else (garlandlaw05_FrameApart.j1 kj3 l0 l1 a2 bt325.1 bt329.1 true)) else (garlandlaw05_FrameApart.j1 kj3 l0 l1 a2 bt325.1 bt329.1 true)))) = some r := by rw [if_neg (show ¬ (false = true) by decide)] at H; exact H
        clear H
        have H := H1
        clear H1
        replace H := Option.bind_eq_some_iff.mp H
        obtain ⟨⟨t325, t326⟩, A90, H⟩ := H
        replace H : ((frame_Close.f l1).bind fun bt329 => (if t326 = 0 then (if bt329.2 = 0 then (if (t325.length : Int) = (wrap64 ((l0.length : Int) + 8)) then (if (bt329.1.length : Int) = (wrap64 ((l1.length : Int) + 8)) then ((frame_Size.f (l0.length : Int)).bind fun t333 => (if (t325.length : Int) = t333 then ((garlandlaw05_same.f t325 bt329.1).bind fun t334 => ((garlandlaw05_same.f l0 l1).bind fun t335 => (garlandlaw05_FrameApart.j1 kj3 l0 l1 a2 t325 bt329.1 (t334 != t335)))) else (garlandlaw05_FrameApart.j1 kj3 l0 l1 a2 t325 bt329.1 true))) else (garlandlaw05_FrameApart.j1 kj3 l0 l1 a2 t325 bt329.1 true)) else (garlandlaw05_FrameApart.j1 kj3 l0 l1 a2 t325 bt329.1 true)) else (garlandlaw05_FrameApart.j1 kj3 l0 l1 a2 t325 bt329.1 true)) else (garlandlaw05_FrameApart.j1 kj3 l0 l1 a2 t325 bt329.1 true))) = some r := H
        have A9 := Aside0.mk A90
        clear A90
        replace H := Option.bind_eq_some_iff.mp H
        obtain ⟨⟨t329, t330⟩, A100, H⟩ := H
        replace H : (if t326 = 0 then (if t330 = 0 then (if (t325.length : Int) = (wrap64 ((l0.length : Int) + 8)) then (if (t329.length : Int) = (wrap64 ((l1.length : Int) + 8)) then ((frame_Size.f (l0.length : Int)).bind fun t333 => (if (t325.length : Int) = t333 then ((garlandlaw05_same.f t325 t329).bind fun t334 => ((garlandlaw05_same.f l0 l1).bind fun t335 => (garlandlaw05_FrameApart.j1 kj3 l0 l1 a2 t325 t329 (t334 != t335)))) else (garlandlaw05_FrameApart.j1 kj3 l0 l1 a2 t325 t329 true))) else (garlandlaw05_FrameApart.j1 kj3 l0 l1 a2 t325 t329 true)) else (garlandlaw05_FrameApart.j1 kj3 l0 l1 a2 t325 t329 true)) else (garlandlaw05_FrameApart.j1 kj3 l0 l1 a2 t325 t329 true)) else (garlandlaw05_FrameApart.j1 kj3 l0 l1 a2 t325 t329 true)) = some r := H
        have A10 := Aside0.mk A100
        clear A100
        have HC11 := Aside0.mk H
        clear H
        go_upto_region 5 with (first | ((with_reducible refine gate_callee (f := 10) rfl ?_); refine goesL_ (some 25) rfl rfl Try.func10 (by kernel_rfl) rfl #[.slice A0 l0.length c0] rfl (by (try simp only [List.map_toArray, List.map_cons, List.map_nil]); first | done | rfl | (simp only [List.length_drop, List.length_take]; rfl)) ?_; (with_reducible refine (frame_Close.calls _ _ l0 t325 t326 _ ?side1 ?side2 A9.out).mono ?_); (case side1 => repeat (first | exact (Kd.C_below HR0.out HB.out) | (with_reducible refine Kd.C_alloc ?_ _) | (with_reducible refine Kd.C_drewN ?_ _) | (with_reducible refine Kd.C_drew ?_))); (case side2 => exact HC0.out); rintro e w12 ⟨v327, rfl, ho0, hb⟩; refine ⟨_, rfl, ?_⟩; have n0_ := Aside0.mk (Kd.R_lower ho0 (below_size (by repeat (first | (with_reducible first | exact HB.out | apply below_alloc | apply pw_below_drewN | apply below_drew1) | exact HB.out)))); have n1_ := Aside0.mk (below_step (by repeat (first | (with_reducible first | exact HB.out | apply below_alloc | apply pw_below_drewN | apply below_drew1) | exact HB.out)) hb); clear HB; have HO328 := n0_; have HB := n1_; clear n0_ n1_; (try clear hb); (try clear hb2); (try clear hk); (try clear hi); (try clear ho0)) | ((with_reducible refine gate_callee (f := 10) rfl ?_); refine goesL_ (some 30) rfl rfl Try.func10 (by kernel_rfl) rfl #[.slice A1 l1.length c1] rfl (by (try simp only [List.map_toArray, List.map_cons, List.map_nil]); first | done | rfl | (simp only [List.length_drop, List.length_take]; rfl)) ?_; (with_reducible refine (frame_Close.calls _ _ l1 t329 t330 _ ?side1 ?side2 A10.out).mono ?_); (case side1 => repeat (first | exact (Kd.C_below HR1.out HB.out) | (with_reducible refine Kd.C_alloc ?_ _) | (with_reducible refine Kd.C_drewN ?_ _) | (with_reducible refine Kd.C_drew ?_))); (case side2 => exact HC1.out); rintro e w13 ⟨v331, rfl, ho0, hb⟩; refine ⟨_, rfl, ?_⟩; have n0_ := Aside0.mk (Kd.R_elder' (by (with_reducible repeat (first | apply Kd.R_alloc | apply Kd.R_drewN | apply Kd.R_drew)); exact HO328.out) (Kd.R_base ho0) hb); have n1_ := Aside0.mk (Kd.R_lower (Kd.R_new' ho0 (Kd.R_lt (by (with_reducible repeat (first | apply Kd.R_alloc | apply Kd.R_drewN | apply Kd.R_drew)); exact HO328.out))) (below_size (by repeat (first | (with_reducible first | exact HB.out | apply below_alloc | apply pw_below_drewN | apply below_drew1) | exact HB.out)))); have n2_ := Aside0.mk (below_step (by repeat (first | (with_reducible first | exact HB.out | apply below_alloc | apply pw_below_drewN | apply below_drew1) | exact HB.out)) hb); clear HO328; clear HB; have HO328 := n0_; have HO332 := n1_; have HB := n2_; clear n0_ n1_ n2_; (try clear hb); (try clear hb2); (try clear hk); (try clear hi); (try clear ho0)))
        (try simp only [Act.put, List.setIfInBounds_toArray, List.set_cons_zero, List.set_cons_succ])
        go_cut [71] (fun v71 wc => ∃ (kq : Nat) (x71_10 : Bool), v71 = .bool x71_10 ∧ Aside0 (garlandlaw05_FrameApart.j1 kq l0 l1 a2 t325 t329 x71_10 = some r) ∧ Aside0 (kq ≤ kj3) ∧ Aside0 (Kd.R (Kd.int .u8) 5 wc w.heap.size (fun k_ => some k_ ≠ (v331 : Value).ownBlock) v327 t325) ∧ Aside0 (Kd.R (Kd.int .u8) 5 wc w.heap.size (fun k_ => some k_ ≠ (v327 : Value).ownBlock) v331 t329) ∧ Aside0 (Below w.heap.size w wc))
        case first =>
          have H := HC11.out
          clear HC11
          by_cases c14 : t326 = 0
          · rw [if_pos c14] at H
            have c14b0 : (t326 == 0) = true := beq_iff_eq.mpr c14
            have c14b1 : (t326 != 0) = false := bne_eq_false_iff_eq.mpr c14
            clear c14
            (first | rw [c14b0] | (simp only [i64_w, i32_w]; rw [c14b0]) | skip)
            by_cases c15 : t330 = 0
            · rw [if_pos c15] at H
              have c15b0 : (t330 == 0) = true := beq_iff_eq.mpr c15
              have c15b1 : (t330 != 0) = false := bne_eq_false_iff_eq.mpr c15
              clear c15
              by_cases c16 : (t325.length : Int) = (wrap64 ((l0.length : Int) + 8))
              · rw [if_pos c16] at H
                have c16b0 : ((t325.length : Int) == (wrap64 ((l0.length : Int) + 8))) = true := beq_iff_eq.mpr c16
                have c16b1 : ((t325.length : Int) != (wrap64 ((l0.length : Int) + 8))) = false := bne_eq_false_iff_eq.mpr c16
                clear c16
                by_cases c17 : (t329.length : Int) = (wrap64 ((l1.length : Int) + 8))
                · rw [if_pos c17] at H
                  have c17b0 : ((t329.length : Int) == (wrap64 ((l1.length : Int) + 8))) = true := beq_iff_eq.mpr c17
                  have c17b1 : ((t329.length : Int) != (wrap64 ((l1.length : Int) + 8))) = false := bne_eq_false_iff_eq.mpr c17
                  clear c17
                  replace H := Option.bind_eq_some_iff.mp H
                  obtain ⟨t333, A180, H⟩ := H
                  replace H : (if (t325.length : Int) = t333 then ((garlandlaw05_same.f t325 t329).bind fun t334 => ((garlandlaw05_same.f l0 l1).bind fun t335 => (garlandlaw05_FrameApart.j1 kj3 l0 l1 a2 t325 t329 (t334 != t335)))) else (garlandlaw05_FrameApart.j1 kj3 l0 l1 a2 t325 t329 true)) = some r := H
                  have A18 := Aside0.mk A180
                  clear A180
                  by_cases c19 : (t325.length : Int) = t333
                  · rw [if_pos c19] at H
                    have c19b0 : ((t325.length : Int) == t333) = true := beq_iff_eq.mpr c19
                    have c19b1 : ((t325.length : Int) != t333) = false := bne_eq_false_iff_eq.mpr c19
                    clear c19
                    replace H := Option.bind_eq_some_iff.mp H
                    obtain ⟨t334, A200, H⟩ := H
                    replace H : ((garlandlaw05_same.f l0 l1).bind fun t335 => (garlandlaw05_FrameApart.j1 kj3 l0 l1 a2 t325 t329 (t334 != t335))) = some r := H
                    have A20 := Aside0.mk A200
                    clear A200
                    replace H := Option.bind_eq_some_iff.mp H
                    obtain ⟨t335, A210, H⟩ := H
                    replace H : (garlandlaw05_FrameApart.j1 kj3 l0 l1 a2 t325 t329 (t334 != t335)) = some r := H
                    have A21 := Aside0.mk A210
                    clear A210
                    have H' := Aside0.mk H
                    clear H
                    obtain ⟨Ao22, co22, eo22⟩ := Kd.R_slice HO328.out
                    subst eo22
                    obtain ⟨Ao23, co23, eo23⟩ := Kd.R_slice HO332.out
                    subst eo23
                    go_wp2_with (first | (go_at_call 19; (with_reducible refine (frame_Size.calls (l0.length : Int) t333 _ A18.out).mono ?_); rintro e w' ⟨rfl, ⟨nd, rfl⟩⟩) | (go_at_call 18; (with_reducible refine (garlandlaw05_same.calls _ _ t325 _ _ t329 t334 _ ?side1 ?side2 ?side3 ?side4 A20.out).mono ?_); (case side1 => repeat (first | exact (Kd.R_reads' HO328.out).2.2 | (with_reducible refine Kd.C_alloc ?_ _) | (with_reducible refine Kd.C_drewN ?_ _) | (with_reducible refine Kd.C_drew ?_))); (case side2 => exact (Kd.R_reads' HO328.out).2.1); (case side3 => repeat (first | exact (Kd.R_reads' HO332.out).2.2 | (with_reducible refine Kd.C_alloc ?_ _) | (with_reducible refine Kd.C_drewN ?_ _) | (with_reducible refine Kd.C_drew ?_))); (case side4 => exact (Kd.R_reads' HO332.out).2.1); rintro e w' ⟨rfl, ⟨nd, rfl⟩⟩) | (go_at_call 18; (with_reducible refine (garlandlaw05_same.calls _ _ l0 _ _ l1 t335 _ ?side1 ?side2 ?side3 ?side4 A21.out).mono ?_); (case side1 => repeat (first | exact (Kd.C_below HR0.out (by repeat (first | (with_reducible first | exact HB.out | apply below_alloc | apply pw_below_drewN | apply below_drew1) | exact HB.out))) | (with_reducible refine Kd.C_alloc ?_ _) | (with_reducible refine Kd.C_drewN ?_ _) | (with_reducible refine Kd.C_drew ?_))); (case side2 => exact HC0.out); (case side3 => repeat (first | exact (Kd.C_below HR1.out (by repeat (first | (with_reducible first | exact HB.out | apply below_alloc | apply pw_below_drewN | apply below_drew1) | exact HB.out))) | (with_reducible refine Kd.C_alloc ?_ _) | (with_reducible refine Kd.C_drewN ?_ _) | (with_reducible refine Kd.C_drew ?_))); (case side4 => exact HC1.out); rintro e w' ⟨rfl, ⟨nd, rfl⟩⟩))
                    go_meet
                    case rel => exact ⟨_, ((t334 != t335)), (by first | rfl | (simp; done) | (simp [*]; done)), H', ⟨by have := HJ3.out; first | omega | exact Nat.le_refl _⟩, ⟨by (with_reducible repeat (first | apply Kd.R_alloc | apply Kd.R_drewN | apply Kd.R_drew)); exact Kd.R_mono HO328.out (fun _ hk => hk.2)⟩, ⟨by (with_reducible repeat (first | apply Kd.R_alloc | apply Kd.R_drewN | apply Kd.R_drew)); exact Kd.R_mono HO332.out (fun _ hk => hk.2)⟩, ⟨by repeat (first | (with_reducible first | exact HB.out | apply below_alloc | apply pw_below_drewN | apply below_drew1) | exact HB.out)⟩⟩
                  · rw [if_neg c19] at H
                    have c19b0 : ((t325.length : Int) == t333) = false := beq_eq_false_iff_ne.mpr c19
                    have c19b1 : ((t325.length : Int) != t333) = true := bne_iff_ne.mpr c19
                    have H' := Aside0.mk H
                    clear H
                    obtain ⟨Ao24, co24, eo24⟩ := Kd.R_slice HO328.out
                    subst eo24
                    obtain ⟨Ao25, co25, eo25⟩ := Kd.R_slice HO332.out
                    subst eo25
                    go_wp2_with (first | (go_at_call 19; (with_reducible refine (frame_Size.calls (l0.length : Int) t333 _ A18.out).mono ?_); rintro e w' ⟨rfl, ⟨nd, rfl⟩⟩))
                    go_meet
                    case rel => exact ⟨_, (true), (by first | rfl | (simp; done) | (simp [*]; done)), H', ⟨by have := HJ3.out; first | omega | exact Nat.le_refl _⟩, ⟨by (with_reducible repeat (first | apply Kd.R_alloc | apply Kd.R_drewN | apply Kd.R_drew)); exact Kd.R_mono HO328.out (fun _ hk => hk.2)⟩, ⟨by (with_reducible repeat (first | apply Kd.R_alloc | apply Kd.R_drewN | apply Kd.R_drew)); exact Kd.R_mono HO332.out (fun _ hk => hk.2)⟩, ⟨by repeat (first | (with_reducible first | exact HB.out | apply below_alloc | apply pw_below_drewN | apply below_drew1) | exact HB.out)⟩⟩
                · rw [if_neg c17] at H
                  have c17b0 : ((t329.length : Int) == (wrap64 ((l1.length : Int) + 8))) = false := beq_eq_false_iff_ne.mpr c17
                  have c17b1 : ((t329.length : Int) != (wrap64 ((l1.length : Int) + 8))) = true := bne_iff_ne.mpr c17
                  have H' := Aside0.mk H
                  clear H
                  obtain ⟨Ao26, co26, eo26⟩ := Kd.R_slice HO328.out
                  subst eo26
                  obtain ⟨Ao27, co27, eo27⟩ := Kd.R_slice HO332.out
                  subst eo27
                  go_wp2
                  go_meet
                  case rel => exact ⟨_, (true), (by first | rfl | (simp; done) | (simp [*]; done)), H', ⟨by have := HJ3.out; first | omega | exact Nat.le_refl _⟩, ⟨by (with_reducible repeat (first | apply Kd.R_alloc | apply Kd.R_drewN | apply Kd.R_drew)); exact Kd.R_mono HO328.out (fun _ hk => hk.2)⟩, ⟨by (with_reducible repeat (first | apply Kd.R_alloc | apply Kd.R_drewN | apply Kd.R_drew)); exact Kd.R_mono HO332.out (fun _ hk => hk.2)⟩, ⟨by repeat (first | (with_reducible first | exact HB.out | apply below_alloc | apply pw_below_drewN | apply below_drew1) | exact HB.out)⟩⟩
              · rw [if_neg c16] at H
                have c16b0 : ((t325.length : Int) == (wrap64 ((l0.length : Int) + 8))) = false := beq_eq_false_iff_ne.mpr c16
                have c16b1 : ((t325.length : Int) != (wrap64 ((l0.length : Int) + 8))) = true := bne_iff_ne.mpr c16
                have H' := Aside0.mk H
                clear H
                obtain ⟨Ao28, co28, eo28⟩ := Kd.R_slice HO328.out
                subst eo28
                go_wp2
                go_meet
                case rel => exact ⟨_, (true), (by first | rfl | (simp; done) | (simp [*]; done)), H', ⟨by have := HJ3.out; first | omega | exact Nat.le_refl _⟩, ⟨by (with_reducible repeat (first | apply Kd.R_alloc | apply Kd.R_drewN | apply Kd.R_drew)); exact Kd.R_mono HO328.out (fun _ hk => hk.2)⟩, ⟨by (with_reducible repeat (first | apply Kd.R_alloc | apply Kd.R_drewN | apply Kd.R_drew)); exact Kd.R_mono HO332.out (fun _ hk => hk.2)⟩, ⟨by repeat (first | (with_reducible first | exact HB.out | apply below_alloc | apply pw_below_drewN | apply below_drew1) | exact HB.out)⟩⟩
            · rw [if_neg c15] at H
              have c15b0 : (t330 == 0) = false := beq_eq_false_iff_ne.mpr c15
              have c15b1 : (t330 != 0) = true := bne_iff_ne.mpr c15
              have H' := Aside0.mk H
              clear H
              go_wp2
              go_meet
              case rel => exact ⟨_, (true), (by first | rfl | (simp; done) | (simp [*]; done)), H', ⟨by have := HJ3.out; first | omega | exact Nat.le_refl _⟩, ⟨by (with_reducible repeat (first | apply Kd.R_alloc | apply Kd.R_drewN | apply Kd.R_drew)); exact Kd.R_mono HO328.out (fun _ hk => hk.2)⟩, ⟨by (with_reducible repeat (first | apply Kd.R_alloc | apply Kd.R_drewN | apply Kd.R_drew)); exact Kd.R_mono HO332.out (fun _ hk => hk.2)⟩, ⟨by repeat (first | (with_reducible first | exact HB.out | apply below_alloc | apply pw_below_drewN | apply below_drew1) | exact HB.out)⟩⟩
          · rw [if_neg c14] at H
            have c14b0 : (t326 == 0) = false := beq_eq_false_iff_ne.mpr c14
            have c14b1 : (t326 != 0) = true := bne_iff_ne.mpr c14
            (first | rw [c14b0] | (simp only [i64_w, i32_w]; rw [c14b0]) | skip)
            have H' := Aside0.mk H
            clear H
            go_wp2
            go_meet
            case rel => exact ⟨_, (true), (by first | rfl | (simp; done) | (simp [*]; done)), H', ⟨by have := HJ3.out; first | omega | exact Nat.le_refl _⟩, ⟨by (with_reducible repeat (first | apply Kd.R_alloc | apply Kd.R_drewN | apply Kd.R_drew)); exact Kd.R_mono HO328.out (fun _ hk => hk.2)⟩, ⟨by (with_reducible repeat (first | apply Kd.R_alloc | apply Kd.R_drewN | apply Kd.R_drew)); exact Kd.R_mono HO332.out (fun _ hk => hk.2)⟩, ⟨by repeat (first | (with_reducible first | exact HB.out | apply below_alloc | apply pw_below_drewN | apply below_drew1) | exact HB.out)⟩⟩
        case rest =>
          clear HC11
          try clear c1
          try clear p2
          try clear c5
          try clear c5b0
          try clear c5b1
          try clear c6
          try clear p6
          try clear c8
          try clear c9
          try clear c10
          try clear c14
          try clear c14b0
          try clear c14b1
          try clear c15
          try clear c15b0
          try clear c15b1
          try clear c16
          try clear c16b0
          try clear c16b1
          try clear c17
          try clear c17b0
          try clear c17b1
          try clear c19
          try clear c19b0
          try clear c19b1
          try clear p2
          obtain ⟨kq, x71_10, rfl, HA, HJ10, HO_7, HO_9, HB⟩ := hcut
          cases kq with
          | zero => exact absurd HA.out (by simp [garlandlaw05_FrameApart.j1])
          | succ kj10 =>
            have H := HA.out
            clear HA
            simp only [garlandlaw05_FrameApart.j1] at H
            by_cases c29 : x71_10 = true
            · subst c29
              have H1 : (none) = some r := by rw [if_pos rfl] at H; exact H
              clear H
              have H := H1
              clear H1
              exact absurd H (by simp)
            · replace c29 := Bool.eq_false_iff.mpr c29
              subst c29
              have H1 : (if (l0.length : Int) = (l1.length : Int) then (garlandlaw05_FrameApart.j2 kj10 l0 l1 a2 t325 t329 ((l0.length : Int) == 0)) else (garlandlaw05_FrameApart.j2 kj10 l0 l1 a2 t325 t329 true)) = some r := by rw [if_neg (show ¬ (false = true) by decide)] at H; exact H
              clear H
              have H := H1
              clear H1
              have HC30 := Aside0.mk H
              clear H
              go_upto_region 7 with (fail)
              go_cut [81] (fun v81 wc => ∃ (kq : Nat) (x81_29 : Bool), v81 = .bool x81_29 ∧ Aside0 (garlandlaw05_FrameApart.j2 kq l0 l1 a2 t325 t329 x81_29 = some r) ∧ Aside0 (kq ≤ kj10) ∧ Aside0 (Kd.R (Kd.int .u8) 5 wc w.heap.size (fun k_ => some k_ ≠ (v331 : Value).ownBlock) v327 t325) ∧ Aside0 (Kd.R (Kd.int .u8) 5 wc w.heap.size (fun k_ => some k_ ≠ (v327 : Value).ownBlock) v331 t329) ∧ Aside0 (Below w.heap.size w wc))
              case first =>
                have H := HC30.out
                clear HC30
                by_cases c31 : (l0.length : Int) = (l1.length : Int)
                · rw [if_pos c31] at H
                  have c31b0 : ((l0.length : Int) == (l1.length : Int)) = true := beq_iff_eq.mpr c31
                  have c31b1 : ((l0.length : Int) != (l1.length : Int)) = false := bne_eq_false_iff_eq.mpr c31
                  have c31b2 : (l0.length == l1.length) = true := by first | simpa using c31 | (simp at c31 ⊢; omega)
                  clear c31
                  (first | rw [c31b0] | (simp only [i64_w, i32_w]; rw [c31b0]) | skip)
                  have H' := Aside0.mk H
                  clear H
                  go_wp2
                  go_meet
                  case rel => exact ⟨_, (((l0.length : Int) == 0)), (by first | rfl | (simp; done) | (simp [*]; done)), H', ⟨by have := HJ3.out; have := HJ10.out; first | omega | exact Nat.le_refl _⟩, ⟨by (with_reducible repeat (first | apply Kd.R_alloc | apply Kd.R_drewN | apply Kd.R_drew)); exact HO_7.out⟩, ⟨by (with_reducible repeat (first | apply Kd.R_alloc | apply Kd.R_drewN | apply Kd.R_drew)); exact HO_9.out⟩, ⟨by repeat (first | (with_reducible first | exact HB.out | apply below_alloc | apply pw_below_drewN | apply below_drew1) | exact HB.out)⟩⟩
                · rw [if_neg c31] at H
                  have c31b0 : ((l0.length : Int) == (l1.length : Int)) = false := beq_eq_false_iff_ne.mpr c31
                  have c31b1 : ((l0.length : Int) != (l1.length : Int)) = true := bne_iff_ne.mpr c31
                  have c31b2 : (l0.length == l1.length) = false := by first | simpa using c31 | (simp at c31 ⊢; omega)
                  (first | rw [c31b0] | (simp only [i64_w, i32_w]; rw [c31b0]) | skip)
                  have H' := Aside0.mk H
                  clear H
                  go_wp2
                  go_meet
                  case rel => exact ⟨_, (true), (by first | rfl | (simp; done) | (simp [*]; done)), H', ⟨by have := HJ3.out; have := HJ10.out; first | omega | exact Nat.le_refl _⟩, ⟨by (with_reducible repeat (first | apply Kd.R_alloc | apply Kd.R_drewN | apply Kd.R_drew)); exact HO_7.out⟩, ⟨by (with_reducible repeat (first | apply Kd.R_alloc | apply Kd.R_drewN | apply Kd.R_drew)); exact HO_9.out⟩, ⟨by repeat (first | (with_reducible first | exact HB.out | apply below_alloc | apply pw_below_drewN | apply below_drew1) | exact HB.out)⟩⟩
              case rest =>
                clear HC30
                try clear c1
                try clear c2
                try clear p2
                try clear c3
                try clear c5
                try clear c5b0
                try clear c5b1
                try clear c6
                try clear p6
                try clear c8
                try clear c9
                try clear c10
                try clear c14
                try clear c14b0
                try clear c14b1
                try clear c15
                try clear c15b0
                try clear c15b1
                try clear c16
                try clear c16b0
                try clear c16b1
                try clear c17
                try clear c17b0
                try clear c17b1
                try clear c19
                try clear c19b0
                try clear c19b1
                try clear c29
                try clear c31
                try clear c31b0
                try clear c31b1
                try clear c31b2
                try clear p2
                try clear p6
                obtain ⟨kq, x81_29, rfl, HA, HJ29, HO_7, HO_9, HB⟩ := hcut
                cases kq with
                | zero => exact absurd HA.out (by simp [garlandlaw05_FrameApart.j2])
                | succ kj29 =>
                  have H := HA.out
                  clear HA
                  simp only [garlandlaw05_FrameApart.j2] at H
                  by_cases c32 : x81_29 = true
                  · subst c32
                    have H1 : ((garlandlaw05_wakes.f).bind fun t336 => (some t336)) = some r := by rw [if_pos rfl] at H; exact H
                    clear H
                    have H := H1
                    clear H1
                    replace H := Option.bind_eq_some_iff.mp H
                    obtain ⟨t336, A330, H⟩ := H
                    replace H : (some t336) = some r := H
                    have A33 := Aside0.mk A330
                    clear A330
                    obtain rfl := Option.some.inj H
                    go_wp2_with (first | ((with_reducible refine gate_callee (f := 9) rfl ?_); refine goesL_ (some 82) rfl rfl Try.func9 (by kernel_rfl) rfl #[] rfl (by (try simp only [List.map_toArray, List.map_cons, List.map_nil]); first | done | rfl | (simp only [List.length_drop, List.length_take]; rfl)) ?_; (with_reducible refine (garlandlaw05_wakes.calls  t336 _ A33.out).mono ?_); rintro e w34 ⟨rfl, hb⟩; refine ⟨_, rfl, ?_⟩; have n0_ := Aside0.mk (Kd.R_below (by (with_reducible repeat (first | apply Kd.R_alloc | apply Kd.R_drewN | apply Kd.R_drew)); exact HO_7.out) hb); have n1_ := Aside0.mk (Kd.R_below (by (with_reducible repeat (first | apply Kd.R_alloc | apply Kd.R_drewN | apply Kd.R_drew)); exact HO_9.out) hb); have n2_ := Aside0.mk (below_step (by repeat (first | (with_reducible first | exact HB.out | apply below_alloc | apply pw_below_drewN | apply below_drew1) | exact HB.out)) hb); clear HO_7; clear HO_9; clear HB; have HO_7 := n0_; have HO_9 := n1_; have HB := n2_; clear n0_ n1_ n2_; (try clear hb); (try clear hb2); (try clear hk); (try clear hi)))
                    go_ret
                    exact ⟨by first | rfl | (simp [errW_none, errW_some] <;> rfl) | (simp [*, errW_none, errW_some] <;> rfl), by repeat (first | (with_reducible first | exact HB.out | apply below_alloc | apply pw_below_drewN | apply below_drew1) | exact HB.out)⟩
                  · replace c32 := Bool.eq_false_iff.mpr c32
                    subst c32
                    have H1 : (if (wrap64 ((l0.length : Int) + 1)) = 0 then (none) else ((some (([] : List Int) : List Int)).bind fun y337 => (if 0 ≤ (wrap64 (4 + (Int.tmod (wrap64 ((wrap64 ((Int.tmod a2 (wrap64 ((l0.length : Int) + 1))) + (l0.length : Int))) + 1)) (wrap64 ((l0.length : Int) + 1))))) then (if (wrap64 (4 + (Int.tmod (wrap64 ((wrap64 ((Int.tmod a2 (wrap64 ((l0.length : Int) + 1))) + (l0.length : Int))) + 1)) (wrap64 ((l0.length : Int) + 1))))) ≤ (t325.length : Int) then ((some (t325.take ((wrap64 (4 + (Int.tmod (wrap64 ((wrap64 ((Int.tmod a2 (wrap64 ((l0.length : Int) + 1))) + (l0.length : Int))) + 1)) (wrap64 ((l0.length : Int) + 1))))) : Int).toNat : List Int)).bind fun y340 => (if y337.length + y340.length < 140737488355328 then ((some (y337 ++ y340 : List Int)).bind fun y344 => (if (wrap64 (4 + (Int.tmod (wrap64 ((wrap64 ((Int.tmod a2 (wrap64 ((l0.length : Int) + 1))) + (l0.length : Int))) + 1)) (wrap64 ((l0.length : Int) + 1))))) ≤ (t329.length : Int) then ((some (t329.drop ((wrap64 (4 + (Int.tmod (wrap64 ((wrap64 ((Int.tmod a2 (wrap64 ((l0.length : Int) + 1))) + (l0.length : Int))) + 1)) (wrap64 ((l0.length : Int) + 1))))) : Int).toNat : List Int)).bind fun y347 => (if y344.length + y347.length < 140737488355328 then ((some (y344 ++ y347 : List Int)).bind fun y351 => ((frame_Open.f y351).bind fun bt354 => (if bt354.2 = 0 then (if 4 ≤ (wrap64 ((y351.length : Int) - 4)) then (if (wrap64 ((y351.length : Int) - 4)) ≤ (y351.length : Int) then ((garlandlaw05_same.f bt354.1 ((y351.take ((wrap64 ((y351.length : Int) - 4)) : Int).toNat).drop 4)).bind fun t362 => (if t362 = true then ((garlandlaw05_same.f l0 l1).bind fun t363 => (if t363 = true then ((garlandlaw05_wakes.f).bind fun t364 => (some t364)) else ((garlandlaw05_wakes.f).bind fun t365 => (some t365)))) else (none))) else (none)) else (none)) else ((garlandlaw05_same.f l0 l1).bind fun t366 => (if t366 = true then (none) else ((garlandlaw05_wakes.f).bind fun t367 => (some t367))))))) else (none))) else (none))) else (none))) else (none)) else (none)))) = some r := by rw [if_neg (show ¬ (false = true) by decide)] at H; exact H
                    clear H
                    have H := H1
                    clear H1
                    by_cases c35 : (wrap64 ((l0.length : Int) + 1)) = 0
                    · rw [if_pos c35] at H
                      exact absurd H (by simp)
                    · rw [if_neg c35] at H
                      have c35b0 : ((wrap64 ((l0.length : Int) + 1)) == 0) = false := beq_eq_false_iff_ne.mpr c35
                      have c35b1 : ((wrap64 ((l0.length : Int) + 1)) != 0) = true := bne_iff_ne.mpr c35
                      obtain ⟨y337, hy337⟩ : ∃ y_ : List Int, y_ = (([] : List Int)) := ⟨_, rfl⟩
                      replace H : (if 0 ≤ (wrap64 (4 + (Int.tmod (wrap64 ((wrap64 ((Int.tmod a2 (wrap64 ((l0.length : Int) + 1))) + (l0.length : Int))) + 1)) (wrap64 ((l0.length : Int) + 1))))) then (if (wrap64 (4 + (Int.tmod (wrap64 ((wrap64 ((Int.tmod a2 (wrap64 ((l0.length : Int) + 1))) + (l0.length : Int))) + 1)) (wrap64 ((l0.length : Int) + 1))))) ≤ (t325.length : Int) then ((some (t325.take ((wrap64 (4 + (Int.tmod (wrap64 ((wrap64 ((Int.tmod a2 (wrap64 ((l0.length : Int) + 1))) + (l0.length : Int))) + 1)) (wrap64 ((l0.length : Int) + 1))))) : Int).toNat : List Int)).bind fun y340 => (if y337.length + y340.length < 140737488355328 then ((some (y337 ++ y340 : List Int)).bind fun y344 => (if (wrap64 (4 + (Int.tmod (wrap64 ((wrap64 ((Int.tmod a2 (wrap64 ((l0.length : Int) + 1))) + (l0.length : Int))) + 1)) (wrap64 ((l0.length : Int) + 1))))) ≤ (t329.length : Int) then ((some (t329.drop ((wrap64 (4 + (Int.tmod (wrap64 ((wrap64 ((Int.tmod a2 (wrap64 ((l0.length : Int) + 1))) + (l0.length : Int))) + 1)) (wrap64 ((l0.length : Int) + 1))))) : Int).toNat : List Int)).bind fun y347 => (if y344.length + y347.length < 140737488355328 then ((some (y344 ++ y347 : List Int)).bind fun y351 => ((frame_Open.f y351).bind fun bt354 => (if bt354.2 = 0 then (if 4 ≤ (wrap64 ((y351.length : Int) - 4)) then (if (wrap64 ((y351.length : Int) - 4)) ≤ (y351.length : Int) then ((garlandlaw05_same.f bt354.1 ((y351.take ((wrap64 ((y351.length : Int) - 4)) : Int).toNat).drop 4)).bind fun t362 => (if t362 = true then ((garlandlaw05_same.f l0 l1).bind fun t363 => (if t363 = true then ((garlandlaw05_wakes.f).bind fun t364 => (some t364)) else ((garlandlaw05_wakes.f).bind fun t365 => (some t365)))) else (none))) else (none)) else (none)) else ((garlandlaw05_same.f l0 l1).bind fun t366 => (if t366 = true then (none) else ((garlandlaw05_wakes.f).bind fun t367 => (some t367))))))) else (none))) else (none))) else (none))) else (none)) else (none)) = some r := by first | (rw [hy337]; with_reducible exact H) | (have H2_ := (Option.bind_some _ _).symm.trans H; rw [hy337]; with_reducible exact H2_) | (have H2_ := (Option.bind_some _ _).symm.trans H; with_reducible exact H2_) | with_reducible exact H | (rw [hy337]; exact H) | exact H
                      have Ny337 := Aside0.mk hy337
                      clear hy337
                      obtain ⟨ji36, hji36⟩ : ∃ j_ : Int, (wrap64 (4 + (Int.tmod (wrap64 ((wrap64 ((Int.tmod a2 (wrap64 ((l0.length : Int) + 1))) + (l0.length : Int))) + 1)) (wrap64 ((l0.length : Int) + 1))))) = j_ := ⟨_, rfl⟩
                      replace H : (if 0 ≤ (ji36) then (if (ji36) ≤ (t325.length : Int) then ((some (t325.take ((ji36) : Int).toNat : List Int)).bind fun y340 => (if y337.length + y340.length < 140737488355328 then ((some (y337 ++ y340 : List Int)).bind fun y344 => (if (ji36) ≤ (t329.length : Int) then ((some (t329.drop ((ji36) : Int).toNat : List Int)).bind fun y347 => (if y344.length + y347.length < 140737488355328 then ((some (y344 ++ y347 : List Int)).bind fun y351 => ((frame_Open.f y351).bind fun bt354 => (if bt354.2 = 0 then (if 4 ≤ (wrap64 ((y351.length : Int) - 4)) then (if (wrap64 ((y351.length : Int) - 4)) ≤ (y351.length : Int) then ((garlandlaw05_same.f bt354.1 ((y351.take ((wrap64 ((y351.length : Int) - 4)) : Int).toNat).drop 4)).bind fun t362 => (if t362 = true then ((garlandlaw05_same.f l0 l1).bind fun t363 => (if t363 = true then ((garlandlaw05_wakes.f).bind fun t364 => (some t364)) else ((garlandlaw05_wakes.f).bind fun t365 => (some t365)))) else (none))) else (none)) else (none)) else ((garlandlaw05_same.f l0 l1).bind fun t366 => (if t366 = true then (none) else ((garlandlaw05_wakes.f).bind fun t367 => (some t367))))))) else (none))) else (none))) else (none))) else (none)) else (none)) = some r := by first | (rw [hji36] at H; exact H) | (simp only [hji36] at H ⊢; exact H)
                      have hji36w : (IntKind.i64.wrap (4 + (Int.tmod (wrap64 ((wrap64 ((Int.tmod a2 (wrap64 ((l0.length : Int) + 1))) + (l0.length : Int))) + 1)) (wrap64 ((l0.length : Int) + 1))))) = ji36 := (i64_w _).trans hji36
                      by_cases c37 : 0 ≤ (ji36)
                      · rw [if_pos c37] at H
                        have c37b0 := eq_true c37
                        have c37b1 : decide (0 ≤ (ji36)) = true := decide_eq_true c37
                        clear c37
                        by_cases c38 : (ji36) ≤ (t325.length : Int)
                        · rw [if_pos c38] at H
                          have c38b0 := eq_true c38
                          have c38b1 : decide ((ji36) ≤ (t325.length : Int)) = true := decide_eq_true c38
                          clear c38
                          obtain ⟨y340, hy340⟩ : ∃ y_ : List Int, y_ = (t325.take ((ji36) : Int).toNat) := ⟨_, rfl⟩
                          replace H : (if y337.length + y340.length < 140737488355328 then ((some (y337 ++ y340 : List Int)).bind fun y344 => (if (ji36) ≤ (t329.length : Int) then ((some (t329.drop ((ji36) : Int).toNat : List Int)).bind fun y347 => (if y344.length + y347.length < 140737488355328 then ((some (y344 ++ y347 : List Int)).bind fun y351 => ((frame_Open.f y351).bind fun bt354 => (if bt354.2 = 0 then (if 4 ≤ (wrap64 ((y351.length : Int) - 4)) then (if (wrap64 ((y351.length : Int) - 4)) ≤ (y351.length : Int) then ((garlandlaw05_same.f bt354.1 ((y351.take ((wrap64 ((y351.length : Int) - 4)) : Int).toNat).drop 4)).bind fun t362 => (if t362 = true then ((garlandlaw05_same.f l0 l1).bind fun t363 => (if t363 = true then ((garlandlaw05_wakes.f).bind fun t364 => (some t364)) else ((garlandlaw05_wakes.f).bind fun t365 => (some t365)))) else (none))) else (none)) else (none)) else ((garlandlaw05_same.f l0 l1).bind fun t366 => (if t366 = true then (none) else ((garlandlaw05_wakes.f).bind fun t367 => (some t367))))))) else (none))) else (none))) else (none)) = some r := by first | (rw [hy340]; with_reducible exact H) | (have H2_ := (Option.bind_some _ _).symm.trans H; rw [hy340]; with_reducible exact H2_) | (have H2_ := (Option.bind_some _ _).symm.trans H; with_reducible exact H2_) | with_reducible exact H | (rw [hy340]; exact H) | exact H
                          have Ny340 := Aside0.mk hy340
                          clear hy340
                          by_cases c39 : y337.length + y340.length < 140737488355328
                          · rw [if_pos c39] at H
                            have LMc39 := Aside0.mk c39
                            clear c39
                            obtain ⟨y344, hy344⟩ : ∃ y_ : List Int, y_ = (y337 ++ y340) := ⟨_, rfl⟩
                            replace H : (if (ji36) ≤ (t329.length : Int) then ((some (t329.drop ((ji36) : Int).toNat : List Int)).bind fun y347 => (if y344.length + y347.length < 140737488355328 then ((some (y344 ++ y347 : List Int)).bind fun y351 => ((frame_Open.f y351).bind fun bt354 => (if bt354.2 = 0 then (if 4 ≤ (wrap64 ((y351.length : Int) - 4)) then (if (wrap64 ((y351.length : Int) - 4)) ≤ (y351.length : Int) then ((garlandlaw05_same.f bt354.1 ((y351.take ((wrap64 ((y351.length : Int) - 4)) : Int).toNat).drop 4)).bind fun t362 => (if t362 = true then ((garlandlaw05_same.f l0 l1).bind fun t363 => (if t363 = true then ((garlandlaw05_wakes.f).bind fun t364 => (some t364)) else ((garlandlaw05_wakes.f).bind fun t365 => (some t365)))) else (none))) else (none)) else (none)) else ((garlandlaw05_same.f l0 l1).bind fun t366 => (if t366 = true then (none) else ((garlandlaw05_wakes.f).bind fun t367 => (some t367))))))) else (none))) else (none)) = some r := by first | (rw [hy344]; with_reducible exact H) | (have H2_ := (Option.bind_some _ _).symm.trans H; rw [hy344]; with_reducible exact H2_) | (have H2_ := (Option.bind_some _ _).symm.trans H; with_reducible exact H2_) | with_reducible exact H | (rw [hy344]; exact H) | exact H
                            have Ny344 := Aside0.mk hy344
                            clear hy344
                            have c40b0 := eq_true (of_decide_eq_true (by first | (with_reducible assumption) | assumption) : 0 ≤ (ji36))
                            by_cases c41 : (ji36) ≤ (t329.length : Int)
                            · rw [if_pos c41] at H
                              have c41b0 := eq_true c41
                              have c41b1 : decide ((ji36) ≤ (t329.length : Int)) = true := decide_eq_true c41
                              clear c41
                              obtain ⟨y347, hy347⟩ : ∃ y_ : List Int, y_ = (t329.drop ((ji36) : Int).toNat) := ⟨_, rfl⟩
                              replace H : (if y344.length + y347.length < 140737488355328 then ((some (y344 ++ y347 : List Int)).bind fun y351 => ((frame_Open.f y351).bind fun bt354 => (if bt354.2 = 0 then (if 4 ≤ (wrap64 ((y351.length : Int) - 4)) then (if (wrap64 ((y351.length : Int) - 4)) ≤ (y351.length : Int) then ((garlandlaw05_same.f bt354.1 ((y351.take ((wrap64 ((y351.length : Int) - 4)) : Int).toNat).drop 4)).bind fun t362 => (if t362 = true then ((garlandlaw05_same.f l0 l1).bind fun t363 => (if t363 = true then ((garlandlaw05_wakes.f).bind fun t364 => (some t364)) else ((garlandlaw05_wakes.f).bind fun t365 => (some t365)))) else (none))) else (none)) else (none)) else ((garlandlaw05_same.f l0 l1).bind fun t366 => (if t366 = true then (none) else ((garlandlaw05_wakes.f).bind fun t367 => (some t367))))))) else (none)) = some r := by first | (rw [hy347]; with_reducible exact H) | (have H2_ := (Option.bind_some _ _).symm.trans H; rw [hy347]; with_reducible exact H2_) | (have H2_ := (Option.bind_some _ _).symm.trans H; with_reducible exact H2_) | with_reducible exact H | (rw [hy347]; exact H) | exact H
                              have Ny347 := Aside0.mk hy347
                              clear hy347
                              by_cases c42 : y344.length + y347.length < 140737488355328
                              · rw [if_pos c42] at H
                                have LMc42 := Aside0.mk c42
                                clear c42
                                obtain ⟨y351, hy351⟩ : ∃ y_ : List Int, y_ = (y344 ++ y347) := ⟨_, rfl⟩
                                replace H : ((frame_Open.f y351).bind fun bt354 => (if bt354.2 = 0 then (if 4 ≤ (wrap64 ((y351.length : Int) - 4)) then (if (wrap64 ((y351.length : Int) - 4)) ≤ (y351.length : Int) then ((garlandlaw05_same.f bt354.1 ((y351.take ((wrap64 ((y351.length : Int) - 4)) : Int).toNat).drop 4)).bind fun t362 => (if t362 = true then ((garlandlaw05_same.f l0 l1).bind fun t363 => (if t363 = true then ((garlandlaw05_wakes.f).bind fun t364 => (some t364)) else ((garlandlaw05_wakes.f).bind fun t365 => (some t365)))) else (none))) else (none)) else (none)) else ((garlandlaw05_same.f l0 l1).bind fun t366 => (if t366 = true then (none) else ((garlandlaw05_wakes.f).bind fun t367 => (some t367)))))) = some r := by first | (rw [hy351]; with_reducible exact H) | (have H2_ := (Option.bind_some _ _).symm.trans H; rw [hy351]; with_reducible exact H2_) | (have H2_ := (Option.bind_some _ _).symm.trans H; with_reducible exact H2_) | with_reducible exact H | (rw [hy351]; exact H) | exact H
                                have Ny351 := Aside0.mk hy351
                                clear hy351
                                replace H := Option.bind_eq_some_iff.mp H
                                obtain ⟨⟨t354, t355⟩, A430, H⟩ := H
                                replace H : (if t355 = 0 then (if 4 ≤ (wrap64 ((y351.length : Int) - 4)) then (if (wrap64 ((y351.length : Int) - 4)) ≤ (y351.length : Int) then ((garlandlaw05_same.f t354 ((y351.take ((wrap64 ((y351.length : Int) - 4)) : Int).toNat).drop 4)).bind fun t362 => (if t362 = true then ((garlandlaw05_same.f l0 l1).bind fun t363 => (if t363 = true then ((garlandlaw05_wakes.f).bind fun t364 => (some t364)) else ((garlandlaw05_wakes.f).bind fun t365 => (some t365)))) else (none))) else (none)) else (none)) else ((garlandlaw05_same.f l0 l1).bind fun t366 => (if t366 = true then (none) else ((garlandlaw05_wakes.f).bind fun t367 => (some t367))))) = some r := H
                                have A43 := Aside0.mk A430
                                clear A430
                                by_cases c44 : t355 = 0
                                · rw [if_pos c44] at H
                                  have c44b0 : (t355 == 0) = true := beq_iff_eq.mpr c44
                                  have c44b1 : (t355 != 0) = false := bne_eq_false_iff_eq.mpr c44
                                  clear c44
                                  by_cases c45 : 4 ≤ (wrap64 ((y351.length : Int) - 4))
                                  · rw [if_pos c45] at H
                                    have c45b0 := eq_true c45
                                    have c45b1 : decide (4 ≤ (wrap64 ((y351.length : Int) - 4))) = true := decide_eq_true c45
                                    clear c45
                                    by_cases c46 : (wrap64 ((y351.length : Int) - 4)) ≤ (y351.length : Int)
                                    · rw [if_pos c46] at H
                                      have c46b0 := eq_true c46
                                      have c46b1 : decide ((wrap64 ((y351.length : Int) - 4)) ≤ (y351.length : Int)) = true := decide_eq_true c46
                                      clear c46
                                      obtain ⟨y358, hy358⟩ : ∃ y_ : List Int, y_ = ((y351.take ((wrap64 ((y351.length : Int) - 4)) : Int).toNat).drop 4) := ⟨_, rfl⟩
                                      replace H : ((garlandlaw05_same.f t354 y358).bind fun t362 => (if t362 = true then ((garlandlaw05_same.f l0 l1).bind fun t363 => (if t363 = true then ((garlandlaw05_wakes.f).bind fun t364 => (some t364)) else ((garlandlaw05_wakes.f).bind fun t365 => (some t365)))) else (none))) = some r := by first | (rw [hy358]; with_reducible exact H) | (have H2_ := (Option.bind_some _ _).symm.trans H; rw [hy358]; with_reducible exact H2_) | (have H2_ := (Option.bind_some _ _).symm.trans H; with_reducible exact H2_) | with_reducible exact H | (rw [hy358]; exact H) | exact H
                                      have Ny358 := Aside0.mk hy358
                                      clear hy358
                                      replace H := Option.bind_eq_some_iff.mp H
                                      obtain ⟨t362, A470, H⟩ := H
                                      replace H : (if t362 = true then ((garlandlaw05_same.f l0 l1).bind fun t363 => (if t363 = true then ((garlandlaw05_wakes.f).bind fun t364 => (some t364)) else ((garlandlaw05_wakes.f).bind fun t365 => (some t365)))) else (none)) = some r := H
                                      have A47 := Aside0.mk A470
                                      clear A470
                                      by_cases c48 : t362 = true
                                      · subst c48
                                        have H1 : ((garlandlaw05_same.f l0 l1).bind fun t363 => (if t363 = true then ((garlandlaw05_wakes.f).bind fun t364 => (some t364)) else ((garlandlaw05_wakes.f).bind fun t365 => (some t365)))) = some r := by rw [if_pos rfl] at H; exact H
                                        clear H
                                        have H := H1
                                        clear H1
                                        replace H := Option.bind_eq_some_iff.mp H
                                        obtain ⟨t363, A490, H⟩ := H
                                        replace H : (if t363 = true then ((garlandlaw05_wakes.f).bind fun t364 => (some t364)) else ((garlandlaw05_wakes.f).bind fun t365 => (some t365))) = some r := H
                                        have A49 := Aside0.mk A490
                                        clear A490
                                        by_cases c50 : t363 = true
                                        · subst c50
                                          have H1 : ((garlandlaw05_wakes.f).bind fun t364 => (some t364)) = some r := by rw [if_pos rfl] at H; exact H
                                          clear H
                                          have H := H1
                                          clear H1
                                          replace H := Option.bind_eq_some_iff.mp H
                                          obtain ⟨t364, A510, H⟩ := H
                                          replace H : (some t364) = some r := H
                                          have A51 := Aside0.mk A510
                                          clear A510
                                          obtain rfl := Option.some.inj H
                                          try go_wp2
                                          have n0_ := Aside0.mk (Kd.R_drew HO_7.out)
                                          have n1_ := Aside0.mk (Kd.R_drew HO_9.out)
                                          have n2_ := Aside0.mk (below_drew1 HB.out)
                                          clear HO_7
                                          clear HO_9
                                          clear HB
                                          have HO_7 := n0_
                                          have HO_9 := n1_
                                          have HB := n2_
                                          clear n0_ n1_ n2_
                                          obtain ⟨Ao54, co54, eo54⟩ := Kd.R_slice HO_7.out
                                          (first | subst eo54 | (injection eo54 with f1_ f2_ f3_; have f4_ := f1_.symm; have f5_ := f3_.symm; clear f1_ f2_ f3_; subst f4_; subst f5_))
                                          have q53 : ((ji36) : Int) ≤ ((t325.length : Int) : Int) := of_decide_eq_true (by first | (with_reducible assumption) | assumption)
                                          obtain ⟨i053, hi053, _, hsz53, _⟩ := info_parts info5
                                          have hroom53 : t325.length ≤ co54 := (Kd.R_reads' HO_7.out).2.1
                                          have hC53 : Kd.C (Kd.int .u8) _ Ao54 t325.length t325 := (Kd.R_reads' HO_7.out).2.2
                                          have hcut53 := cut_to (P := Try.prog) 23 5 .i64 Try.underlying23 hi053 Ao54 t325.length co54 (ji36) (of_decide_eq_true (by first | (with_reducible assumption) | assumption)) q53 hroom53
                                          have hr53 := Kd.C_take (m := ((ji36) : Int).toNat) hC53 (by omega)
                                          have hy53 : y340.length = ((ji36) : Int).toNat := (by rw [Ny340.out, List.length_take]; omega)
                                          rw [← Ny340.out] at hr53
                                          rw [← hy53] at hcut53
                                          have HR343 := Aside0.mk hr53
                                          have HC343 := Aside0.mk (show y340.length ≤ co54 from by omega)
                                          clear hr53 hC53 hroom53 hi053 hsz53
                                          have KY53 := Aside0.mk hy53
                                          clear hy53
                                          have KL53 := Aside0.mk (show ((ji36) : Int).toNat ≤ t325.length from by omega)
                                          replace q53 := eq_true q53
                                          obtain ⟨Ao56, co56, eo56⟩ := Kd.R_slice HO_9.out
                                          (first | subst eo56 | (injection eo56 with f1_ f2_ f3_; have f4_ := f1_.symm; have f5_ := f3_.symm; clear f1_ f2_ f3_; subst f4_; subst f5_))
                                          have q55 : ((ji36) : Int) ≤ ((t329.length : Int) : Int) := of_decide_eq_true (by first | (with_reducible assumption) | assumption)
                                          obtain ⟨i055, hi055, _, hsz55, _⟩ := info_parts info5
                                          have hroom55 : t329.length ≤ co56 := (Kd.R_reads' HO_9.out).2.1
                                          have hC55 : Kd.C (Kd.int .u8) _ Ao56 t329.length t329 := (Kd.R_reads' HO_9.out).2.2
                                          have q055 : (0 : Int) ≤ ((ji36) : Int) := of_decide_eq_true (by first | (with_reducible assumption) | assumption)
                                          have hcut55 := cut_from (P := Try.prog) 23 5 .i64 Try.underlying23 hi055 1 hsz55 Ao56 t329.length co56 (ji36) q055 q55
                                          have hr55 := Kd.C_drop (m := ((ji36) : Int).toNat) (c := co56) hC55 (by omega) hroom55
                                          obtain ⟨A55, hA55⟩ : ∃ A1, A1 = (if co56 = ((ji36) : Int).toNat then Ao56 else (Ao56 : Option Addr).map (·.add (((ji36) : Int).toNat * 1))) := ⟨_, rfl⟩
                                          obtain ⟨c55, hc55⟩ : ∃ c1, c1 = co56 - ((ji36) : Int).toNat := ⟨_, rfl⟩
                                          have hy55 : y347.length = t329.length - ((ji36) : Int).toNat := (by rw [Ny347.out, List.length_drop] <;> omega)
                                          rw [show (t329).drop ((ji36) : Int).toNat = y347 from Ny347.out.symm] at hr55
                                          replace hr55 : Kd.C (Kd.int .u8) _ A55 y347.length y347 := (by rw [hA55]; exact hr55)
                                          rw [← hy55, ← hA55, ← hc55] at hcut55
                                          have HR350 := Aside0.mk hr55
                                          have HC350 := Aside0.mk (show y347.length ≤ c55 from by rw [hy55, hc55]; exact Nat.sub_le_sub_right hroom55 _)
                                          clear hr55 hC55 hroom55 hi055 hsz55 hc55
                                          have KY55 := Aside0.mk hy55
                                          have KA55 := Aside0.mk hA55
                                          clear hy55 hA55
                                          have KL55 := Aside0.mk (show ((ji36) : Int).toNat ≤ t329.length from by omega)
                                          replace q55 := eq_true q55
                                          refine start_ (n := 10) (S := fun w' => True) (ds := []) #[false, false, false, false, false, false, false, false, false, false] (by kernel_rfl) rfl rfl trivial (fun hHeld => ?_); refine with_tabW garlandlaw05_FrameApart.tab10 garlandlaw05_FrameApart.bits10 (fun HT_ HW_ => ?_)
                                          generalize wc.drew = w52 at HO_7 HO_9 HB HR343 HR350 hHeld ⊢
                                          refine pure_ (i := 1) (N := some 98) (v := ?_) (a' := ?_) #[false, true, false, false, false, false, false, false, false, false] rfl rfl (any_of HT_.out (by kernel_rfl)) (fun _ _ _ h => h) (Or.inl ⟨by rfl, ?_⟩) ?_ ?_
                                          rotate_left
                                          · intro w'
                                            go_simp
                                            with_reducible rfl
                                          rotate_left
                                          · simp only [Act.put, List.setIfInBounds_toArray, List.set_cons_zero, List.set_cons_succ, i64_w, i32_w]
                                            rfl
                                          refine pure_ (i := 2) (N := some 99) (v := ?_) (a' := ?_) #[false, true, true, false, false, false, false, false, false, false] rfl rfl (any_of HT_.out (by kernel_rfl)) (fun _ _ _ h => h) (Or.inl ⟨by rfl, ?_⟩) ?_ ?_
                                          rotate_left
                                          · intro w'
                                            go_simp
                                            with_reducible rfl
                                          rotate_left
                                          · simp only [Act.put, List.setIfInBounds_toArray, List.set_cons_zero, List.set_cons_succ, i64_w, i32_w]
                                            rfl
                                          refine pure_ (i := 3) (N := some 100) (v := ?_) (a' := ?_) #[false, true, true, true, false, false, false, false, false, false] rfl rfl (any_of HT_.out (by kernel_rfl)) (fun _ _ _ h => h) (Or.inl ⟨by rfl, ?_⟩) ?_ ?_
                                          rotate_left
                                          · intro w'
                                            go_simp
                                            with_reducible rfl
                                          rotate_left
                                          · simp only [Act.put, List.setIfInBounds_toArray, List.set_cons_zero, List.set_cons_succ, i64_w, i32_w]
                                            rfl
                                          refine pure_ (i := 5) (N := some 102) (v := ?_) (a' := ?_) #[false, true, true, true, false, true, false, false, false, false] rfl rfl (any_of HT_.out (by kernel_rfl)) (fun _ _ _ h => h) (Or.inl ⟨by rfl, ?_⟩) ?_ ?_
                                          rotate_left
                                          · intro w'
                                            go_simp
                                            with_reducible rfl
                                          rotate_left
                                          · simp only [Act.put, List.setIfInBounds_toArray, List.set_cons_zero, List.set_cons_succ, i64_w, i32_w]
                                            rfl
                                          refine pure_ (i := 6) (N := some 103) (v := ?_) (a' := ?_) #[false, true, true, true, false, true, true, false, false, false] rfl rfl (any_of HT_.out (by kernel_rfl)) (fun _ _ _ h => h) (Or.inl ⟨by rfl, ?_⟩) ?_ ?_
                                          rotate_left
                                          · intro w'
                                            go_simp
                                            with_reducible rfl
                                          rotate_left
                                          · simp only [Act.put, List.setIfInBounds_toArray, List.set_cons_zero, List.set_cons_succ, i64_w, i32_w]
                                            rfl
                                          refine pure_ (i := 7) (N := some 104) (v := ?_) (a' := ?_) #[false, true, true, true, false, true, true, true, false, false] rfl rfl (any_of HT_.out (by kernel_rfl)) (fun _ _ _ h => h) (Or.inl ⟨by rfl, ?_⟩) ?_ ?_
                                          rotate_left
                                          · intro w'
                                            go_simp
                                            with_reducible rfl
                                          rotate_left
                                          · simp only [Act.put, List.setIfInBounds_toArray, List.set_cons_zero, List.set_cons_succ, i64_w, i32_w]
                                            rfl
                                          refine one_ (i := 0) (N := some 97) #[true, true, true, true, false, true, true, true, false, false] rfl rfl (one_of HT_.out (by kernel_rfl)) (by decide) (fun K hK => ?_)
                                          refine Kd.R_lit_step (Kd.int .u8) _ 5 ?hg (N := 97) ?hd (xs := ([] : List Int)) (inner := []) (ok := fun _ => True) (okp := fun _ => True) ?hr ?hp (fun _ hk => hk) trivial (Below.refl _ _) (Nat.le_refl _) (by simp) ?_; (case hd => rfl); (case hg => rfl); (case hr => first | (go_simp; done) | (go_simp; rfl)); (case hp => exact (Reps.none _ _))
                                          intro v338 w57 ho58 hb hg_ hnew_
                                          clear hg_ hnew_
                                          (first | rw [← Ny337.out] at ho58 | (simp only [Int.reduceToNat] at ho58; rw [← Ny337.out] at ho58))
                                          have n0_ := Aside0.mk (Kd.R_elder' (by (with_reducible repeat (first | apply Kd.R_alloc | apply Kd.R_drewN | apply Kd.R_drew)); exact HO_7.out) (Kd.R_base ho58) hb)
                                          have n1_ := Aside0.mk (Kd.R_elder' (by (with_reducible repeat (first | apply Kd.R_alloc | apply Kd.R_drewN | apply Kd.R_drew)); exact HO_9.out) (Kd.R_base ho58) hb)
                                          have n2_ := Aside0.mk (Kd.R_lower (Kd.R_new' (Kd.R_new' ho58 (Kd.R_lt (by (with_reducible repeat (first | apply Kd.R_alloc | apply Kd.R_drewN | apply Kd.R_drew)); exact HO_7.out))) (Kd.R_lt (by (with_reducible repeat (first | apply Kd.R_alloc | apply Kd.R_drewN | apply Kd.R_drew)); exact HO_9.out))) (below_size (by repeat (first | (with_reducible first | exact HB.out | apply below_alloc | apply pw_below_drewN | apply below_drew1) | exact HB.out))))
                                          have n3_ := Aside0.mk (Kd.C_below (by repeat (first | (with_reducible exact HR343.out) | (with_reducible refine Kd.C_alloc ?_ _) | (with_reducible refine Kd.C_drewN ?_ _) | (with_reducible refine Kd.C_drew ?_) | exact HR343.out)) hb)
                                          have n4_ := Aside0.mk (Kd.C_below (by repeat (first | (with_reducible exact HR350.out) | (with_reducible refine Kd.C_alloc ?_ _) | (with_reducible refine Kd.C_drewN ?_ _) | (with_reducible refine Kd.C_drew ?_) | exact HR350.out)) hb)
                                          have n5_ := Aside0.mk (below_step (by repeat (first | (with_reducible first | exact HB.out | apply below_alloc | apply pw_below_drewN | apply below_drew1) | exact HB.out)) hb)
                                          clear HO_7
                                          clear HO_9
                                          clear HR343
                                          clear HR350
                                          clear HB
                                          have HO_7 := n0_
                                          have HO_9 := n1_
                                          have HO339 := n2_
                                          have HR343 := n3_
                                          have HR350 := n4_
                                          have HB := n5_
                                          clear n0_ n1_ n2_ n3_ n4_ n5_
                                          clear hb ho58
                                          refine hK.out _ _ trivial (fun hHeld => ?_)
                                          clear hK K
                                          refine norm_ (a' := ?_) ?_ ?_
                                          rotate_left
                                          · show Act.put _ (some 97) _ = _
                                            simp only [Act.put, List.setIfInBounds_toArray, List.set_cons_zero, List.set_cons_succ, i64_w, i32_w]
                                            rfl
                                          refine one_ (i := 4) (N := some 101) #[true, true, true, true, true, true, true, true, false, false] rfl rfl (one_of HT_.out (by kernel_rfl)) (by decide) (fun K hK => ?_)
                                          refine Kd.R_append_rows_step (Kd.int .u8) (w0 := w) w.heap.size (by rfl) (.tmp 97) (.tmp 100) 23 5 (.int .u8 0) 1 rfl Try.underlying23 info5 rfl (by decide) (by omega) v338 y337 y340 _ _ _ (fun k_ => some k_ ≠ (.slice Ao54 t325.length co54 : Value).ownBlock ∧ some k_ ≠ (.slice Ao56 t329.length co56 : Value).ownBlock) (fun _ => False) rfl rfl ?aO ?aR (fun _ _ h => h) (fun _ h => h.elim) ?aF ?aB ?aS ?aL ?_
                                          (case aR => repeat (first | exact (by repeat (first | (with_reducible exact HR343.out) | (with_reducible refine Kd.C_alloc ?_ _) | (with_reducible refine Kd.C_drewN ?_ _) | (with_reducible refine Kd.C_drew ?_) | exact HR343.out)) | (with_reducible refine Kd.C_alloc ?_ _) | (with_reducible refine Kd.C_drewN ?_ _) | (with_reducible refine Kd.C_drew ?_)))
                                          (case aB => exact (by repeat (first | (with_reducible first | exact HB.out | apply below_alloc | apply pw_below_drewN | apply below_drew1) | exact HB.out)))
                                          (case aF => exact (fun k_ hk => ⟨Kd.fresh' (Kd.R_lt (by (with_reducible repeat (first | apply Kd.R_alloc | apply Kd.R_drewN | apply Kd.R_drew)); exact HO_7.out)) k_ hk, Kd.fresh' (Kd.R_lt (by (with_reducible repeat (first | apply Kd.R_alloc | apply Kd.R_drewN | apply Kd.R_drew)); exact HO_9.out)) k_ hk⟩))
                                          (case aO => exact (by (with_reducible repeat (first | apply Kd.R_alloc | apply Kd.R_drewN | apply Kd.R_drew)); exact Kd.R_mono HO339.out (fun _ hk => ⟨hk.1.2, hk.2⟩)))
                                          (case aS => exact (below_size (by repeat (first | (with_reducible first | exact HB.out | apply below_alloc | apply pw_below_drewN | apply below_drew1) | exact HB.out))))
                                          (case aL => have := LMc39.out; omega)
                                          intro v345 w59 ho hb hg hat
                                          rw [← Ny344.out] at ho
                                          have n0_ := Aside0.mk (Kd.R_after (ok := (fun k_ => some k_ ≠ (.slice Ao56 t329.length co56 : Value).ownBlock)) (by (with_reducible repeat (first | apply Kd.R_alloc | apply Kd.R_drewN | apply Kd.R_drew)); exact HO_7.out) hg hat)
                                          have n1_ := Aside0.mk (Kd.R_after (ok := (fun k_ => some k_ ≠ (.slice Ao54 t325.length co54 : Value).ownBlock)) (by (with_reducible repeat (first | apply Kd.R_alloc | apply Kd.R_drewN | apply Kd.R_drew)); exact HO_9.out) hg hat)
                                          have n2_ := Aside0.mk (hb)
                                          have n3_ := Aside0.mk ((show Kd.C (Kd.int .u8) w59 Ao54 y340.length y340 from by rw [Ny340.out]; exact Kd.C_take (m := ((ji36) : Int).toNat) ((Kd.R_reads' (Kd.R_after (ok := (fun k_ => some k_ ≠ (.slice Ao56 t329.length co56 : Value).ownBlock)) (by (with_reducible repeat (first | apply Kd.R_alloc | apply Kd.R_drewN | apply Kd.R_drew)); exact HO_7.out) hg hat)).2.2) KL53.out))
                                          have n4_ := Aside0.mk ((show Kd.C (Kd.int .u8) w59 A55 y347.length y347 from by rw [Ny347.out, KA55.out]; exact Kd.C_drop (m := ((ji36) : Int).toNat) (c := co56) ((Kd.R_reads' (Kd.R_after (ok := (fun k_ => some k_ ≠ (.slice Ao54 t325.length co54 : Value).ownBlock)) (by (with_reducible repeat (first | apply Kd.R_alloc | apply Kd.R_drewN | apply Kd.R_drew)); exact HO_9.out) hg hat)).2.2) KL55.out ((Kd.R_reads' (Kd.R_after (ok := (fun k_ => some k_ ≠ (.slice Ao54 t325.length co54 : Value).ownBlock)) (by (with_reducible repeat (first | apply Kd.R_alloc | apply Kd.R_drewN | apply Kd.R_drew)); exact HO_9.out) hg hat)).2.1)))
                                          have n5_ := Aside0.mk (ho)
                                          clear HO_7
                                          clear HO_9
                                          clear HB
                                          clear HR343
                                          clear HR350
                                          clear HO339
                                          have HO_7 := n0_
                                          have HO_9 := n1_
                                          have HB := n2_
                                          have HR343 := n3_
                                          have HR350 := n4_
                                          have HO346 := n5_
                                          clear n0_ n1_ n2_ n3_ n4_ n5_
                                          clear ho hb hg hat
                                          refine hK.out _ _ trivial (fun hHeld => ?_)
                                          clear hK K
                                          refine norm_ (a' := ?_) ?_ ?_
                                          rotate_left
                                          · show Act.put _ (some 101) _ = _
                                            simp only [Act.put, List.setIfInBounds_toArray, List.set_cons_zero, List.set_cons_succ, i64_w, i32_w]
                                            rfl
                                          refine one_ (i := 8) (N := some 105) #[true, true, true, true, true, true, true, true, true, false] rfl rfl (one_of HT_.out (by kernel_rfl)) (by decide) (fun K hK => ?_)
                                          refine Kd.R_append_rows_step (Kd.int .u8) (w0 := w) w.heap.size (by rfl) (.tmp 101) (.tmp 104) 23 5 (.int .u8 0) 1 rfl Try.underlying23 info5 rfl (by decide) (by omega) v345 y344 y347 _ _ _ (fun k_ => some k_ ≠ (.slice Ao54 t325.length co54 : Value).ownBlock ∧ some k_ ≠ (.slice Ao56 t329.length co56 : Value).ownBlock) (fun _ => False) rfl rfl ?aO ?aR (fun _ _ h => h) (fun _ h => h.elim) ?aF ?aB ?aS ?aL ?_
                                          (case aR => repeat (first | exact (by repeat (first | (with_reducible exact HR350.out) | (with_reducible refine Kd.C_alloc ?_ _) | (with_reducible refine Kd.C_drewN ?_ _) | (with_reducible refine Kd.C_drew ?_) | exact HR350.out)) | (with_reducible refine Kd.C_alloc ?_ _) | (with_reducible refine Kd.C_drewN ?_ _) | (with_reducible refine Kd.C_drew ?_)))
                                          (case aB => exact (by repeat (first | (with_reducible first | exact HB.out | apply below_alloc | apply pw_below_drewN | apply below_drew1) | exact HB.out)))
                                          (case aF => exact (fun k_ hk => ⟨Kd.fresh' (Kd.R_lt (by (with_reducible repeat (first | apply Kd.R_alloc | apply Kd.R_drewN | apply Kd.R_drew)); exact HO_7.out)) k_ hk, Kd.fresh' (Kd.R_lt (by (with_reducible repeat (first | apply Kd.R_alloc | apply Kd.R_drewN | apply Kd.R_drew)); exact HO_9.out)) k_ hk⟩))
                                          (case aO => exact (by (with_reducible repeat (first | apply Kd.R_alloc | apply Kd.R_drewN | apply Kd.R_drew)); exact HO346.out))
                                          (case aS => exact (below_size (by repeat (first | (with_reducible first | exact HB.out | apply below_alloc | apply pw_below_drewN | apply below_drew1) | exact HB.out))))
                                          (case aL => have := LMc42.out; omega)
                                          intro v352 w60 ho hb hg hat
                                          rw [← Ny351.out] at ho
                                          have n0_ := Aside0.mk (Kd.R_after (ok := (fun k_ => some k_ ≠ (.slice Ao56 t329.length co56 : Value).ownBlock)) (by (with_reducible repeat (first | apply Kd.R_alloc | apply Kd.R_drewN | apply Kd.R_drew)); exact HO_7.out) hg hat)
                                          have n1_ := Aside0.mk (Kd.R_after (ok := (fun k_ => some k_ ≠ (.slice Ao54 t325.length co54 : Value).ownBlock)) (by (with_reducible repeat (first | apply Kd.R_alloc | apply Kd.R_drewN | apply Kd.R_drew)); exact HO_9.out) hg hat)
                                          have n2_ := Aside0.mk (hb)
                                          have n3_ := Aside0.mk ((show Kd.C (Kd.int .u8) w60 Ao54 y340.length y340 from by rw [Ny340.out]; exact Kd.C_take (m := ((ji36) : Int).toNat) ((Kd.R_reads' (Kd.R_after (ok := (fun k_ => some k_ ≠ (.slice Ao56 t329.length co56 : Value).ownBlock)) (by (with_reducible repeat (first | apply Kd.R_alloc | apply Kd.R_drewN | apply Kd.R_drew)); exact HO_7.out) hg hat)).2.2) KL53.out))
                                          have n4_ := Aside0.mk ((show Kd.C (Kd.int .u8) w60 A55 y347.length y347 from by rw [Ny347.out, KA55.out]; exact Kd.C_drop (m := ((ji36) : Int).toNat) (c := co56) ((Kd.R_reads' (Kd.R_after (ok := (fun k_ => some k_ ≠ (.slice Ao54 t325.length co54 : Value).ownBlock)) (by (with_reducible repeat (first | apply Kd.R_alloc | apply Kd.R_drewN | apply Kd.R_drew)); exact HO_9.out) hg hat)).2.2) KL55.out ((Kd.R_reads' (Kd.R_after (ok := (fun k_ => some k_ ≠ (.slice Ao54 t325.length co54 : Value).ownBlock)) (by (with_reducible repeat (first | apply Kd.R_alloc | apply Kd.R_drewN | apply Kd.R_drew)); exact HO_9.out) hg hat)).2.1)))
                                          have n5_ := Aside0.mk (ho)
                                          clear HO_7
                                          clear HO_9
                                          clear HB
                                          clear HR343
                                          clear HR350
                                          clear HO346
                                          have HO_7 := n0_
                                          have HO_9 := n1_
                                          have HB := n2_
                                          have HR343 := n3_
                                          have HR350 := n4_
                                          have HO353 := n5_
                                          clear n0_ n1_ n2_ n3_ n4_ n5_
                                          clear ho hb hg hat
                                          refine hK.out _ _ trivial (fun hHeld => ?_)
                                          clear hK K
                                          refine norm_ (a' := ?_) ?_ ?_
                                          rotate_left
                                          · show Act.put _ (some 105) _ = _
                                            simp only [Act.put, List.setIfInBounds_toArray, List.set_cons_zero, List.set_cons_succ, i64_w, i32_w]
                                            rfl
                                          refine pure_ (i := 9) (N := some 11) (v := ?_) (a' := ?_) #[true, true, true, true, true, true, true, true, true, true] rfl rfl (any_of HT_.out (by kernel_rfl)) (fun _ _ _ h => h) (Or.inl ⟨by rfl, ?_⟩) ?_ ?_
                                          rotate_left
                                          · intro w'
                                            go_simp
                                            with_reducible rfl
                                          rotate_left
                                          · simp only [Act.put, List.setIfInBounds_toArray, List.set_cons_zero, List.set_cons_succ, i64_w, i32_w]
                                            rfl
                                          refine done_ (done_of HT_.out (by kernel_rfl)) ?_
                                          obtain ⟨Ao61, co61, eo61⟩ := Kd.R_slice HO353.out
                                          subst eo61
                                          try go_wp2_with (first | ((with_reducible refine gate_callee (f := 12) rfl ?_); refine goesL_ (some 108) rfl rfl Try.func12 (by kernel_rfl) rfl #[.slice Ao61 y351.length co61] rfl (by (try simp only [List.map_toArray, List.map_cons, List.map_nil]); first | done | rfl | (simp only [List.length_drop, List.length_take]; rfl)) ?_; (with_reducible refine (frame_Open.calls _ _ y351 t354 t355 _ ?side1 ?side2 A43.out).mono ?_); (case side1 => repeat (first | exact (Kd.R_reads' HO353.out).2.2 | (with_reducible refine Kd.C_alloc ?_ _) | (with_reducible refine Kd.C_drewN ?_ _) | (with_reducible refine Kd.C_drew ?_))); (case side2 => exact (Kd.R_reads' HO353.out).2.1); rintro e w62 ⟨v356, rfl, ho0, hb⟩; refine ⟨_, rfl, ?_⟩; have n0_ := Aside0.mk (Kd.R_elder' (by (with_reducible repeat (first | apply Kd.R_alloc | apply Kd.R_drewN | apply Kd.R_drew)); exact HO_7.out) (Kd.R_base ho0) hb); have n1_ := Aside0.mk (Kd.R_elder' (by (with_reducible repeat (first | apply Kd.R_alloc | apply Kd.R_drewN | apply Kd.R_drew)); exact HO_9.out) (Kd.R_base ho0) hb); have n2_ := Aside0.mk (Kd.R_elder' (by (with_reducible repeat (first | apply Kd.R_alloc | apply Kd.R_drewN | apply Kd.R_drew)); exact HO353.out) (Kd.R_base ho0) hb); have n3_ := Aside0.mk (Kd.R_lower (Kd.R_new' (Kd.R_new' (Kd.R_new' ho0 (Kd.R_lt (by (with_reducible repeat (first | apply Kd.R_alloc | apply Kd.R_drewN | apply Kd.R_drew)); exact HO_7.out))) (Kd.R_lt (by (with_reducible repeat (first | apply Kd.R_alloc | apply Kd.R_drewN | apply Kd.R_drew)); exact HO_9.out))) (Kd.R_lt (by (with_reducible repeat (first | apply Kd.R_alloc | apply Kd.R_drewN | apply Kd.R_drew)); exact HO353.out))) (below_size (by repeat (first | (with_reducible first | exact HB.out | apply below_alloc | apply pw_below_drewN | apply below_drew1) | exact HB.out)))); have n4_ := Aside0.mk (Kd.C_below (by repeat (first | (with_reducible exact HR343.out) | (with_reducible refine Kd.C_alloc ?_ _) | (with_reducible refine Kd.C_drewN ?_ _) | (with_reducible refine Kd.C_drew ?_) | exact HR343.out)) hb); have n5_ := Aside0.mk (Kd.C_below (by repeat (first | (with_reducible exact HR350.out) | (with_reducible refine Kd.C_alloc ?_ _) | (with_reducible refine Kd.C_drewN ?_ _) | (with_reducible refine Kd.C_drew ?_) | exact HR350.out)) hb); have n6_ := Aside0.mk (below_step (by repeat (first | (with_reducible first | exact HB.out | apply below_alloc | apply pw_below_drewN | apply below_drew1) | exact HB.out)) hb); clear HO_7; clear HO_9; clear HO353; clear HR343; clear HR350; clear HB; have HO_7 := n0_; have HO_9 := n1_; have HO353 := n2_; have HO357 := n3_; have HR343 := n4_; have HR350 := n5_; have HB := n6_; clear n0_ n1_ n2_ n3_ n4_ n5_ n6_; (try clear hb); (try clear hb2); (try clear hk); (try clear hi); (try clear ho0); have q63 : ((wrap64 ((y351.length : Int) - 4)) : Int) ≤ ((y351.length : Int) : Int) := of_decide_eq_true (by first | (with_reducible assumption) | assumption); obtain ⟨i063, hi063, _, hsz63, _⟩ := info_parts info5; have hroom63 : y351.length ≤ co61 := (Kd.R_reads' HO353.out).2.1; have hC63 : Kd.C (Kd.int .u8) _ Ao61 y351.length y351 := (Kd.R_reads' HO353.out).2.2; have ql63 : (4 : Int) ≤ ((wrap64 ((y351.length : Int) - 4)) : Int) := of_decide_eq_true (by first | (with_reducible assumption) | assumption); have hcut63 := cut_mid (P := Try.prog) 23 5 .i64 .i64 Try.underlying23 hi063 1 hsz63 Ao61 y351.length co61 4 (wrap64 ((y351.length : Int) - 4)) (by omega) ql63 q63 hroom63; have hr63 := Kd.C_mid (lo := (4 : Int).toNat) (hi := ((wrap64 ((y351.length : Int) - 4)) : Int).toNat) (c := co61) hC63 (by omega) (by omega) hroom63; obtain ⟨A63, hA63⟩ : ∃ A1, A1 = (if co61 = (4 : Int).toNat then Ao61 else (Ao61 : Option Addr).map (·.add ((4 : Int).toNat * 1))) := ⟨_, rfl⟩; obtain ⟨c63, hc63⟩ : ∃ c1, c1 = co61 - (4 : Int).toNat := ⟨_, rfl⟩; have hy63 : y358.length = ((wrap64 ((y351.length : Int) - 4)) : Int).toNat - (4 : Int).toNat := (by rw [Ny358.out, List.length_drop, List.length_take] <;> omega); rw [show ((y351).take ((wrap64 ((y351.length : Int) - 4)) : Int).toNat).drop (4 : Int).toNat = y358 from Ny358.out.symm] at hr63; replace hr63 : Kd.C (Kd.int .u8) _ A63 y358.length y358 := (by rw [hA63]; exact hr63); rw [← hy63, ← hA63, ← hc63] at hcut63; have HR361 := Aside0.mk hr63; have HC361 := Aside0.mk (show y358.length ≤ c63 from by rw [hy63, hc63]; exact Nat.sub_le_sub_right (Nat.le_trans (by omega) hroom63) _); clear hr63 hC63 hroom63 hi063 hsz63 hc63; have KY63 := Aside0.mk hy63; have KA63 := Aside0.mk hA63; clear hy63 hA63; have KL63 := Aside0.mk (show ((wrap64 ((y351.length : Int) - 4)) : Int).toNat ≤ y351.length from by omega); have KM63 := Aside0.mk (show 4 ≤ ((wrap64 ((y351.length : Int) - 4)) : Int).toNat from by omega); replace q63 := eq_true q63; obtain ⟨Ao64, co64, eo64⟩ := Kd.R_slice HO357.out; subst eo64) | (go_at_call 18; (with_reducible refine (garlandlaw05_same.calls _ _ t354 _ _ y358 true _ ?side1 ?side2 ?side3 ?side4 A47.out).mono ?_); (case side1 => repeat (first | exact (Kd.R_reads' HO357.out).2.2 | (with_reducible refine Kd.C_alloc ?_ _) | (with_reducible refine Kd.C_drewN ?_ _) | (with_reducible refine Kd.C_drew ?_))); (case side2 => exact (Kd.R_reads' HO357.out).2.1); (case side3 => repeat (first | exact (by repeat (first | (with_reducible exact HR361.out) | (with_reducible refine Kd.C_alloc ?_ _) | (with_reducible refine Kd.C_drewN ?_ _) | (with_reducible refine Kd.C_drew ?_) | exact HR361.out)) | (with_reducible refine Kd.C_alloc ?_ _) | (with_reducible refine Kd.C_drewN ?_ _) | (with_reducible refine Kd.C_drew ?_))); (case side4 => exact HC361.out); rintro e w' ⟨rfl, ⟨nd, rfl⟩⟩) | (go_at_call 18; (with_reducible refine (garlandlaw05_same.calls _ _ l0 _ _ l1 true _ ?side1 ?side2 ?side3 ?side4 A49.out).mono ?_); (case side1 => repeat (first | exact (Kd.C_below HR0.out (by repeat (first | (with_reducible first | exact HB.out | apply below_alloc | apply pw_below_drewN | apply below_drew1) | exact HB.out))) | (with_reducible refine Kd.C_alloc ?_ _) | (with_reducible refine Kd.C_drewN ?_ _) | (with_reducible refine Kd.C_drew ?_))); (case side2 => exact HC0.out); (case side3 => repeat (first | exact (Kd.C_below HR1.out (by repeat (first | (with_reducible first | exact HB.out | apply below_alloc | apply pw_below_drewN | apply below_drew1) | exact HB.out))) | (with_reducible refine Kd.C_alloc ?_ _) | (with_reducible refine Kd.C_drewN ?_ _) | (with_reducible refine Kd.C_drew ?_))); (case side4 => exact HC1.out); rintro e w' ⟨rfl, ⟨nd, rfl⟩⟩) | (go_at_call 9; (with_reducible refine (garlandlaw05_wakes.calls  t364 _ A51.out).mono ?_); rintro e w65 ⟨rfl, hb⟩; have n7_ := Aside0.mk (below_step (by repeat (first | (with_reducible first | exact HB.out | apply below_alloc | apply pw_below_drewN | apply below_drew1) | exact HB.out)) hb); clear HB; have HB := n7_; clear n7_; (try clear hb)))
                                          go_ret
                                          exact ⟨by first | rfl | (simp [errW_none, errW_some] <;> rfl) | (simp only [← hji36]; first | rfl | (simp [errW_none, errW_some] <;> rfl)) | (simp [*, errW_none, errW_some] <;> rfl), by repeat (first | (with_reducible first | exact HB.out | apply below_alloc | apply pw_below_drewN | apply below_drew1) | exact HB.out)⟩
                                        · replace c50 := Bool.eq_false_iff.mpr c50
                                          subst c50
                                          have H1 : ((garlandlaw05_wakes.f).bind fun t365 => (some t365)) = some r := by rw [if_neg (show ¬ (false = true) by decide)] at H; exact H
                                          clear H
                                          have H := H1
                                          clear H1
                                          replace H := Option.bind_eq_some_iff.mp H
                                          obtain ⟨t365, A660, H⟩ := H
                                          replace H : (some t365) = some r := H
                                          have A66 := Aside0.mk A660
                                          clear A660
                                          obtain rfl := Option.some.inj H
                                          try go_wp2
                                          have n0_ := Aside0.mk (Kd.R_drew HO_7.out)
                                          have n1_ := Aside0.mk (Kd.R_drew HO_9.out)
                                          have n2_ := Aside0.mk (below_drew1 HB.out)
                                          clear HO_7
                                          clear HO_9
                                          clear HB
                                          have HO_7 := n0_
                                          have HO_9 := n1_
                                          have HB := n2_
                                          clear n0_ n1_ n2_
                                          obtain ⟨Ao69, co69, eo69⟩ := Kd.R_slice HO_7.out
                                          (first | subst eo69 | (injection eo69 with f1_ f2_ f3_; have f4_ := f1_.symm; have f5_ := f3_.symm; clear f1_ f2_ f3_; subst f4_; subst f5_))
                                          have q68 : ((ji36) : Int) ≤ ((t325.length : Int) : Int) := of_decide_eq_true (by first | (with_reducible assumption) | assumption)
                                          obtain ⟨i068, hi068, _, hsz68, _⟩ := info_parts info5
                                          have hroom68 : t325.length ≤ co69 := (Kd.R_reads' HO_7.out).2.1
                                          have hC68 : Kd.C (Kd.int .u8) _ Ao69 t325.length t325 := (Kd.R_reads' HO_7.out).2.2
                                          have hcut68 := cut_to (P := Try.prog) 23 5 .i64 Try.underlying23 hi068 Ao69 t325.length co69 (ji36) (of_decide_eq_true (by first | (with_reducible assumption) | assumption)) q68 hroom68
                                          have hr68 := Kd.C_take (m := ((ji36) : Int).toNat) hC68 (by omega)
                                          have hy68 : y340.length = ((ji36) : Int).toNat := (by rw [Ny340.out, List.length_take]; omega)
                                          rw [← Ny340.out] at hr68
                                          rw [← hy68] at hcut68
                                          have HR343 := Aside0.mk hr68
                                          have HC343 := Aside0.mk (show y340.length ≤ co69 from by omega)
                                          clear hr68 hC68 hroom68 hi068 hsz68
                                          have KY68 := Aside0.mk hy68
                                          clear hy68
                                          have KL68 := Aside0.mk (show ((ji36) : Int).toNat ≤ t325.length from by omega)
                                          replace q68 := eq_true q68
                                          obtain ⟨Ao71, co71, eo71⟩ := Kd.R_slice HO_9.out
                                          (first | subst eo71 | (injection eo71 with f1_ f2_ f3_; have f4_ := f1_.symm; have f5_ := f3_.symm; clear f1_ f2_ f3_; subst f4_; subst f5_))
                                          have q70 : ((ji36) : Int) ≤ ((t329.length : Int) : Int) := of_decide_eq_true (by first | (with_reducible assumption) | assumption)
                                          obtain ⟨i070, hi070, _, hsz70, _⟩ := info_parts info5
                                          have hroom70 : t329.length ≤ co71 := (Kd.R_reads' HO_9.out).2.1
                                          have hC70 : Kd.C (Kd.int .u8) _ Ao71 t329.length t329 := (Kd.R_reads' HO_9.out).2.2
                                          have q070 : (0 : Int) ≤ ((ji36) : Int) := of_decide_eq_true (by first | (with_reducible assumption) | assumption)
                                          have hcut70 := cut_from (P := Try.prog) 23 5 .i64 Try.underlying23 hi070 1 hsz70 Ao71 t329.length co71 (ji36) q070 q70
                                          have hr70 := Kd.C_drop (m := ((ji36) : Int).toNat) (c := co71) hC70 (by omega) hroom70
                                          obtain ⟨A70, hA70⟩ : ∃ A1, A1 = (if co71 = ((ji36) : Int).toNat then Ao71 else (Ao71 : Option Addr).map (·.add (((ji36) : Int).toNat * 1))) := ⟨_, rfl⟩
                                          obtain ⟨c70, hc70⟩ : ∃ c1, c1 = co71 - ((ji36) : Int).toNat := ⟨_, rfl⟩
                                          have hy70 : y347.length = t329.length - ((ji36) : Int).toNat := (by rw [Ny347.out, List.length_drop] <;> omega)
                                          rw [show (t329).drop ((ji36) : Int).toNat = y347 from Ny347.out.symm] at hr70
                                          replace hr70 : Kd.C (Kd.int .u8) _ A70 y347.length y347 := (by rw [hA70]; exact hr70)
                                          rw [← hy70, ← hA70, ← hc70] at hcut70
                                          have HR350 := Aside0.mk hr70
                                          have HC350 := Aside0.mk (show y347.length ≤ c70 from by rw [hy70, hc70]; exact Nat.sub_le_sub_right hroom70 _)
                                          clear hr70 hC70 hroom70 hi070 hsz70 hc70
                                          have KY70 := Aside0.mk hy70
                                          have KA70 := Aside0.mk hA70
                                          clear hy70 hA70
                                          have KL70 := Aside0.mk (show ((ji36) : Int).toNat ≤ t329.length from by omega)
                                          replace q70 := eq_true q70
                                          refine start_ (n := 10) (S := fun w' => True) (ds := []) #[false, false, false, false, false, false, false, false, false, false] (by kernel_rfl) rfl rfl trivial (fun hHeld => ?_); refine with_tabW garlandlaw05_FrameApart.tab10 garlandlaw05_FrameApart.bits10 (fun HT_ HW_ => ?_)
                                          generalize wc.drew = w67 at HO_7 HO_9 HB HR343 HR350 hHeld ⊢
                                          refine pure_ (i := 1) (N := some 98) (v := ?_) (a' := ?_) #[false, true, false, false, false, false, false, false, false, false] rfl rfl (any_of HT_.out (by kernel_rfl)) (fun _ _ _ h => h) (Or.inl ⟨by rfl, ?_⟩) ?_ ?_
                                          rotate_left
                                          · intro w'
                                            go_simp
                                            with_reducible rfl
                                          rotate_left
                                          · simp only [Act.put, List.setIfInBounds_toArray, List.set_cons_zero, List.set_cons_succ, i64_w, i32_w]
                                            rfl
                                          refine pure_ (i := 2) (N := some 99) (v := ?_) (a' := ?_) #[false, true, true, false, false, false, false, false, false, false] rfl rfl (any_of HT_.out (by kernel_rfl)) (fun _ _ _ h => h) (Or.inl ⟨by rfl, ?_⟩) ?_ ?_
                                          rotate_left
                                          · intro w'
                                            go_simp
                                            with_reducible rfl
                                          rotate_left
                                          · simp only [Act.put, List.setIfInBounds_toArray, List.set_cons_zero, List.set_cons_succ, i64_w, i32_w]
                                            rfl
                                          refine pure_ (i := 3) (N := some 100) (v := ?_) (a' := ?_) #[false, true, true, true, false, false, false, false, false, false] rfl rfl (any_of HT_.out (by kernel_rfl)) (fun _ _ _ h => h) (Or.inl ⟨by rfl, ?_⟩) ?_ ?_
                                          rotate_left
                                          · intro w'
                                            go_simp
                                            with_reducible rfl
                                          rotate_left
                                          · simp only [Act.put, List.setIfInBounds_toArray, List.set_cons_zero, List.set_cons_succ, i64_w, i32_w]
                                            rfl
                                          refine pure_ (i := 5) (N := some 102) (v := ?_) (a' := ?_) #[false, true, true, true, false, true, false, false, false, false] rfl rfl (any_of HT_.out (by kernel_rfl)) (fun _ _ _ h => h) (Or.inl ⟨by rfl, ?_⟩) ?_ ?_
                                          rotate_left
                                          · intro w'
                                            go_simp
                                            with_reducible rfl
                                          rotate_left
                                          · simp only [Act.put, List.setIfInBounds_toArray, List.set_cons_zero, List.set_cons_succ, i64_w, i32_w]
                                            rfl
                                          refine pure_ (i := 6) (N := some 103) (v := ?_) (a' := ?_) #[false, true, true, true, false, true, true, false, false, false] rfl rfl (any_of HT_.out (by kernel_rfl)) (fun _ _ _ h => h) (Or.inl ⟨by rfl, ?_⟩) ?_ ?_
                                          rotate_left
                                          · intro w'
                                            go_simp
                                            with_reducible rfl
                                          rotate_left
                                          · simp only [Act.put, List.setIfInBounds_toArray, List.set_cons_zero, List.set_cons_succ, i64_w, i32_w]
                                            rfl
                                          refine pure_ (i := 7) (N := some 104) (v := ?_) (a' := ?_) #[false, true, true, true, false, true, true, true, false, false] rfl rfl (any_of HT_.out (by kernel_rfl)) (fun _ _ _ h => h) (Or.inl ⟨by rfl, ?_⟩) ?_ ?_
                                          rotate_left
                                          · intro w'
                                            go_simp
                                            with_reducible rfl
                                          rotate_left
                                          · simp only [Act.put, List.setIfInBounds_toArray, List.set_cons_zero, List.set_cons_succ, i64_w, i32_w]
                                            rfl
                                          refine one_ (i := 0) (N := some 97) #[true, true, true, true, false, true, true, true, false, false] rfl rfl (one_of HT_.out (by kernel_rfl)) (by decide) (fun K hK => ?_)
                                          refine Kd.R_lit_step (Kd.int .u8) _ 5 ?hg (N := 97) ?hd (xs := ([] : List Int)) (inner := []) (ok := fun _ => True) (okp := fun _ => True) ?hr ?hp (fun _ hk => hk) trivial (Below.refl _ _) (Nat.le_refl _) (by simp) ?_; (case hd => rfl); (case hg => rfl); (case hr => first | (go_simp; done) | (go_simp; rfl)); (case hp => exact (Reps.none _ _))
                                          intro v338 w72 ho73 hb hg_ hnew_
                                          clear hg_ hnew_
                                          (first | rw [← Ny337.out] at ho73 | (simp only [Int.reduceToNat] at ho73; rw [← Ny337.out] at ho73))
                                          have n0_ := Aside0.mk (Kd.R_elder' (by (with_reducible repeat (first | apply Kd.R_alloc | apply Kd.R_drewN | apply Kd.R_drew)); exact HO_7.out) (Kd.R_base ho73) hb)
                                          have n1_ := Aside0.mk (Kd.R_elder' (by (with_reducible repeat (first | apply Kd.R_alloc | apply Kd.R_drewN | apply Kd.R_drew)); exact HO_9.out) (Kd.R_base ho73) hb)
                                          have n2_ := Aside0.mk (Kd.R_lower (Kd.R_new' (Kd.R_new' ho73 (Kd.R_lt (by (with_reducible repeat (first | apply Kd.R_alloc | apply Kd.R_drewN | apply Kd.R_drew)); exact HO_7.out))) (Kd.R_lt (by (with_reducible repeat (first | apply Kd.R_alloc | apply Kd.R_drewN | apply Kd.R_drew)); exact HO_9.out))) (below_size (by repeat (first | (with_reducible first | exact HB.out | apply below_alloc | apply pw_below_drewN | apply below_drew1) | exact HB.out))))
                                          have n3_ := Aside0.mk (Kd.C_below (by repeat (first | (with_reducible exact HR343.out) | (with_reducible refine Kd.C_alloc ?_ _) | (with_reducible refine Kd.C_drewN ?_ _) | (with_reducible refine Kd.C_drew ?_) | exact HR343.out)) hb)
                                          have n4_ := Aside0.mk (Kd.C_below (by repeat (first | (with_reducible exact HR350.out) | (with_reducible refine Kd.C_alloc ?_ _) | (with_reducible refine Kd.C_drewN ?_ _) | (with_reducible refine Kd.C_drew ?_) | exact HR350.out)) hb)
                                          have n5_ := Aside0.mk (below_step (by repeat (first | (with_reducible first | exact HB.out | apply below_alloc | apply pw_below_drewN | apply below_drew1) | exact HB.out)) hb)
                                          clear HO_7
                                          clear HO_9
                                          clear HR343
                                          clear HR350
                                          clear HB
                                          have HO_7 := n0_
                                          have HO_9 := n1_
                                          have HO339 := n2_
                                          have HR343 := n3_
                                          have HR350 := n4_
                                          have HB := n5_
                                          clear n0_ n1_ n2_ n3_ n4_ n5_
                                          clear hb ho73
                                          refine hK.out _ _ trivial (fun hHeld => ?_)
                                          clear hK K
                                          refine norm_ (a' := ?_) ?_ ?_
                                          rotate_left
                                          · show Act.put _ (some 97) _ = _
                                            simp only [Act.put, List.setIfInBounds_toArray, List.set_cons_zero, List.set_cons_succ, i64_w, i32_w]
                                            rfl
                                          refine one_ (i := 4) (N := some 101) #[true, true, true, true, true, true, true, true, false, false] rfl rfl (one_of HT_.out (by kernel_rfl)) (by decide) (fun K hK => ?_)
                                          refine Kd.R_append_rows_step (Kd.int .u8) (w0 := w) w.heap.size (by rfl) (.tmp 97) (.tmp 100) 23 5 (.int .u8 0) 1 rfl Try.underlying23 info5 rfl (by decide) (by omega) v338 y337 y340 _ _ _ (fun k_ => some k_ ≠ (.slice Ao69 t325.length co69 : Value).ownBlock ∧ some k_ ≠ (.slice Ao71 t329.length co71 : Value).ownBlock) (fun _ => False) rfl rfl ?aO ?aR (fun _ _ h => h) (fun _ h => h.elim) ?aF ?aB ?aS ?aL ?_
                                          (case aR => repeat (first | exact (by repeat (first | (with_reducible exact HR343.out) | (with_reducible refine Kd.C_alloc ?_ _) | (with_reducible refine Kd.C_drewN ?_ _) | (with_reducible refine Kd.C_drew ?_) | exact HR343.out)) | (with_reducible refine Kd.C_alloc ?_ _) | (with_reducible refine Kd.C_drewN ?_ _) | (with_reducible refine Kd.C_drew ?_)))
                                          (case aB => exact (by repeat (first | (with_reducible first | exact HB.out | apply below_alloc | apply pw_below_drewN | apply below_drew1) | exact HB.out)))
                                          (case aF => exact (fun k_ hk => ⟨Kd.fresh' (Kd.R_lt (by (with_reducible repeat (first | apply Kd.R_alloc | apply Kd.R_drewN | apply Kd.R_drew)); exact HO_7.out)) k_ hk, Kd.fresh' (Kd.R_lt (by (with_reducible repeat (first | apply Kd.R_alloc | apply Kd.R_drewN | apply Kd.R_drew)); exact HO_9.out)) k_ hk⟩))
                                          (case aO => exact (by (with_reducible repeat (first | apply Kd.R_alloc | apply Kd.R_drewN | apply Kd.R_drew)); exact Kd.R_mono HO339.out (fun _ hk => ⟨hk.1.2, hk.2⟩)))
                                          (case aS => exact (below_size (by repeat (first | (with_reducible first | exact HB.out | apply below_alloc | apply pw_below_drewN | apply below_drew1) | exact HB.out))))
                                          (case aL => have := LMc39.out; omega)
                                          intro v345 w74 ho hb hg hat
                                          rw [← Ny344.out] at ho
                                          have n0_ := Aside0.mk (Kd.R_after (ok := (fun k_ => some k_ ≠ (.slice Ao71 t329.length co71 : Value).ownBlock)) (by (with_reducible repeat (first | apply Kd.R_alloc | apply Kd.R_drewN | apply Kd.R_drew)); exact HO_7.out) hg hat)
                                          have n1_ := Aside0.mk (Kd.R_after (ok := (fun k_ => some k_ ≠ (.slice Ao69 t325.length co69 : Value).ownBlock)) (by (with_reducible repeat (first | apply Kd.R_alloc | apply Kd.R_drewN | apply Kd.R_drew)); exact HO_9.out) hg hat)
                                          have n2_ := Aside0.mk (hb)
                                          have n3_ := Aside0.mk ((show Kd.C (Kd.int .u8) w74 Ao69 y340.length y340 from by rw [Ny340.out]; exact Kd.C_take (m := ((ji36) : Int).toNat) ((Kd.R_reads' (Kd.R_after (ok := (fun k_ => some k_ ≠ (.slice Ao71 t329.length co71 : Value).ownBlock)) (by (with_reducible repeat (first | apply Kd.R_alloc | apply Kd.R_drewN | apply Kd.R_drew)); exact HO_7.out) hg hat)).2.2) KL68.out))
                                          have n4_ := Aside0.mk ((show Kd.C (Kd.int .u8) w74 A70 y347.length y347 from by rw [Ny347.out, KA70.out]; exact Kd.C_drop (m := ((ji36) : Int).toNat) (c := co71) ((Kd.R_reads' (Kd.R_after (ok := (fun k_ => some k_ ≠ (.slice Ao69 t325.length co69 : Value).ownBlock)) (by (with_reducible repeat (first | apply Kd.R_alloc | apply Kd.R_drewN | apply Kd.R_drew)); exact HO_9.out) hg hat)).2.2) KL70.out ((Kd.R_reads' (Kd.R_after (ok := (fun k_ => some k_ ≠ (.slice Ao69 t325.length co69 : Value).ownBlock)) (by (with_reducible repeat (first | apply Kd.R_alloc | apply Kd.R_drewN | apply Kd.R_drew)); exact HO_9.out) hg hat)).2.1)))
                                          have n5_ := Aside0.mk (ho)
                                          clear HO_7
                                          clear HO_9
                                          clear HB
                                          clear HR343
                                          clear HR350
                                          clear HO339
                                          have HO_7 := n0_
                                          have HO_9 := n1_
                                          have HB := n2_
                                          have HR343 := n3_
                                          have HR350 := n4_
                                          have HO346 := n5_
                                          clear n0_ n1_ n2_ n3_ n4_ n5_
                                          clear ho hb hg hat
                                          refine hK.out _ _ trivial (fun hHeld => ?_)
                                          clear hK K
                                          refine norm_ (a' := ?_) ?_ ?_
                                          rotate_left
                                          · show Act.put _ (some 101) _ = _
                                            simp only [Act.put, List.setIfInBounds_toArray, List.set_cons_zero, List.set_cons_succ, i64_w, i32_w]
                                            rfl
                                          refine one_ (i := 8) (N := some 105) #[true, true, true, true, true, true, true, true, true, false] rfl rfl (one_of HT_.out (by kernel_rfl)) (by decide) (fun K hK => ?_)
                                          refine Kd.R_append_rows_step (Kd.int .u8) (w0 := w) w.heap.size (by rfl) (.tmp 101) (.tmp 104) 23 5 (.int .u8 0) 1 rfl Try.underlying23 info5 rfl (by decide) (by omega) v345 y344 y347 _ _ _ (fun k_ => some k_ ≠ (.slice Ao69 t325.length co69 : Value).ownBlock ∧ some k_ ≠ (.slice Ao71 t329.length co71 : Value).ownBlock) (fun _ => False) rfl rfl ?aO ?aR (fun _ _ h => h) (fun _ h => h.elim) ?aF ?aB ?aS ?aL ?_
                                          (case aR => repeat (first | exact (by repeat (first | (with_reducible exact HR350.out) | (with_reducible refine Kd.C_alloc ?_ _) | (with_reducible refine Kd.C_drewN ?_ _) | (with_reducible refine Kd.C_drew ?_) | exact HR350.out)) | (with_reducible refine Kd.C_alloc ?_ _) | (with_reducible refine Kd.C_drewN ?_ _) | (with_reducible refine Kd.C_drew ?_)))
                                          (case aB => exact (by repeat (first | (with_reducible first | exact HB.out | apply below_alloc | apply pw_below_drewN | apply below_drew1) | exact HB.out)))
                                          (case aF => exact (fun k_ hk => ⟨Kd.fresh' (Kd.R_lt (by (with_reducible repeat (first | apply Kd.R_alloc | apply Kd.R_drewN | apply Kd.R_drew)); exact HO_7.out)) k_ hk, Kd.fresh' (Kd.R_lt (by (with_reducible repeat (first | apply Kd.R_alloc | apply Kd.R_drewN | apply Kd.R_drew)); exact HO_9.out)) k_ hk⟩))
                                          (case aO => exact (by (with_reducible repeat (first | apply Kd.R_alloc | apply Kd.R_drewN | apply Kd.R_drew)); exact HO346.out))
                                          (case aS => exact (below_size (by repeat (first | (with_reducible first | exact HB.out | apply below_alloc | apply pw_below_drewN | apply below_drew1) | exact HB.out))))
                                          (case aL => have := LMc42.out; omega)
                                          intro v352 w75 ho hb hg hat
                                          rw [← Ny351.out] at ho
                                          have n0_ := Aside0.mk (Kd.R_after (ok := (fun k_ => some k_ ≠ (.slice Ao71 t329.length co71 : Value).ownBlock)) (by (with_reducible repeat (first | apply Kd.R_alloc | apply Kd.R_drewN | apply Kd.R_drew)); exact HO_7.out) hg hat)
                                          have n1_ := Aside0.mk (Kd.R_after (ok := (fun k_ => some k_ ≠ (.slice Ao69 t325.length co69 : Value).ownBlock)) (by (with_reducible repeat (first | apply Kd.R_alloc | apply Kd.R_drewN | apply Kd.R_drew)); exact HO_9.out) hg hat)
                                          have n2_ := Aside0.mk (hb)
                                          have n3_ := Aside0.mk ((show Kd.C (Kd.int .u8) w75 Ao69 y340.length y340 from by rw [Ny340.out]; exact Kd.C_take (m := ((ji36) : Int).toNat) ((Kd.R_reads' (Kd.R_after (ok := (fun k_ => some k_ ≠ (.slice Ao71 t329.length co71 : Value).ownBlock)) (by (with_reducible repeat (first | apply Kd.R_alloc | apply Kd.R_drewN | apply Kd.R_drew)); exact HO_7.out) hg hat)).2.2) KL68.out))
                                          have n4_ := Aside0.mk ((show Kd.C (Kd.int .u8) w75 A70 y347.length y347 from by rw [Ny347.out, KA70.out]; exact Kd.C_drop (m := ((ji36) : Int).toNat) (c := co71) ((Kd.R_reads' (Kd.R_after (ok := (fun k_ => some k_ ≠ (.slice Ao69 t325.length co69 : Value).ownBlock)) (by (with_reducible repeat (first | apply Kd.R_alloc | apply Kd.R_drewN | apply Kd.R_drew)); exact HO_9.out) hg hat)).2.2) KL70.out ((Kd.R_reads' (Kd.R_after (ok := (fun k_ => some k_ ≠ (.slice Ao69 t325.length co69 : Value).ownBlock)) (by (with_reducible repeat (first | apply Kd.R_alloc | apply Kd.R_drewN | apply Kd.R_drew)); exact HO_9.out) hg hat)).2.1)))
                                          have n5_ := Aside0.mk (ho)
                                          clear HO_7
                                          clear HO_9
                                          clear HB
                                          clear HR343
                                          clear HR350
                                          clear HO346
                                          have HO_7 := n0_
                                          have HO_9 := n1_
                                          have HB := n2_
                                          have HR343 := n3_
                                          have HR350 := n4_
                                          have HO353 := n5_
                                          clear n0_ n1_ n2_ n3_ n4_ n5_
                                          clear ho hb hg hat
                                          refine hK.out _ _ trivial (fun hHeld => ?_)
                                          clear hK K
                                          refine norm_ (a' := ?_) ?_ ?_
                                          rotate_left
                                          · show Act.put _ (some 105) _ = _
                                            simp only [Act.put, List.setIfInBounds_toArray, List.set_cons_zero, List.set_cons_succ, i64_w, i32_w]
                                            rfl
                                          refine pure_ (i := 9) (N := some 11) (v := ?_) (a' := ?_) #[true, true, true, true, true, true, true, true, true, true] rfl rfl (any_of HT_.out (by kernel_rfl)) (fun _ _ _ h => h) (Or.inl ⟨by rfl, ?_⟩) ?_ ?_
                                          rotate_left
                                          · intro w'
                                            go_simp
                                            with_reducible rfl
                                          rotate_left
                                          · simp only [Act.put, List.setIfInBounds_toArray, List.set_cons_zero, List.set_cons_succ, i64_w, i32_w]
                                            rfl
                                          refine done_ (done_of HT_.out (by kernel_rfl)) ?_
                                          obtain ⟨Ao76, co76, eo76⟩ := Kd.R_slice HO353.out
                                          subst eo76
                                          try go_wp2_with (first | ((with_reducible refine gate_callee (f := 12) rfl ?_); refine goesL_ (some 108) rfl rfl Try.func12 (by kernel_rfl) rfl #[.slice Ao76 y351.length co76] rfl (by (try simp only [List.map_toArray, List.map_cons, List.map_nil]); first | done | rfl | (simp only [List.length_drop, List.length_take]; rfl)) ?_; (with_reducible refine (frame_Open.calls _ _ y351 t354 t355 _ ?side1 ?side2 A43.out).mono ?_); (case side1 => repeat (first | exact (Kd.R_reads' HO353.out).2.2 | (with_reducible refine Kd.C_alloc ?_ _) | (with_reducible refine Kd.C_drewN ?_ _) | (with_reducible refine Kd.C_drew ?_))); (case side2 => exact (Kd.R_reads' HO353.out).2.1); rintro e w77 ⟨v356, rfl, ho0, hb⟩; refine ⟨_, rfl, ?_⟩; have n0_ := Aside0.mk (Kd.R_elder' (by (with_reducible repeat (first | apply Kd.R_alloc | apply Kd.R_drewN | apply Kd.R_drew)); exact HO_7.out) (Kd.R_base ho0) hb); have n1_ := Aside0.mk (Kd.R_elder' (by (with_reducible repeat (first | apply Kd.R_alloc | apply Kd.R_drewN | apply Kd.R_drew)); exact HO_9.out) (Kd.R_base ho0) hb); have n2_ := Aside0.mk (Kd.R_elder' (by (with_reducible repeat (first | apply Kd.R_alloc | apply Kd.R_drewN | apply Kd.R_drew)); exact HO353.out) (Kd.R_base ho0) hb); have n3_ := Aside0.mk (Kd.R_lower (Kd.R_new' (Kd.R_new' (Kd.R_new' ho0 (Kd.R_lt (by (with_reducible repeat (first | apply Kd.R_alloc | apply Kd.R_drewN | apply Kd.R_drew)); exact HO_7.out))) (Kd.R_lt (by (with_reducible repeat (first | apply Kd.R_alloc | apply Kd.R_drewN | apply Kd.R_drew)); exact HO_9.out))) (Kd.R_lt (by (with_reducible repeat (first | apply Kd.R_alloc | apply Kd.R_drewN | apply Kd.R_drew)); exact HO353.out))) (below_size (by repeat (first | (with_reducible first | exact HB.out | apply below_alloc | apply pw_below_drewN | apply below_drew1) | exact HB.out)))); have n4_ := Aside0.mk (Kd.C_below (by repeat (first | (with_reducible exact HR343.out) | (with_reducible refine Kd.C_alloc ?_ _) | (with_reducible refine Kd.C_drewN ?_ _) | (with_reducible refine Kd.C_drew ?_) | exact HR343.out)) hb); have n5_ := Aside0.mk (Kd.C_below (by repeat (first | (with_reducible exact HR350.out) | (with_reducible refine Kd.C_alloc ?_ _) | (with_reducible refine Kd.C_drewN ?_ _) | (with_reducible refine Kd.C_drew ?_) | exact HR350.out)) hb); have n6_ := Aside0.mk (below_step (by repeat (first | (with_reducible first | exact HB.out | apply below_alloc | apply pw_below_drewN | apply below_drew1) | exact HB.out)) hb); clear HO_7; clear HO_9; clear HO353; clear HR343; clear HR350; clear HB; have HO_7 := n0_; have HO_9 := n1_; have HO353 := n2_; have HO357 := n3_; have HR343 := n4_; have HR350 := n5_; have HB := n6_; clear n0_ n1_ n2_ n3_ n4_ n5_ n6_; (try clear hb); (try clear hb2); (try clear hk); (try clear hi); (try clear ho0); have q78 : ((wrap64 ((y351.length : Int) - 4)) : Int) ≤ ((y351.length : Int) : Int) := of_decide_eq_true (by first | (with_reducible assumption) | assumption); obtain ⟨i078, hi078, _, hsz78, _⟩ := info_parts info5; have hroom78 : y351.length ≤ co76 := (Kd.R_reads' HO353.out).2.1; have hC78 : Kd.C (Kd.int .u8) _ Ao76 y351.length y351 := (Kd.R_reads' HO353.out).2.2; have ql78 : (4 : Int) ≤ ((wrap64 ((y351.length : Int) - 4)) : Int) := of_decide_eq_true (by first | (with_reducible assumption) | assumption); have hcut78 := cut_mid (P := Try.prog) 23 5 .i64 .i64 Try.underlying23 hi078 1 hsz78 Ao76 y351.length co76 4 (wrap64 ((y351.length : Int) - 4)) (by omega) ql78 q78 hroom78; have hr78 := Kd.C_mid (lo := (4 : Int).toNat) (hi := ((wrap64 ((y351.length : Int) - 4)) : Int).toNat) (c := co76) hC78 (by omega) (by omega) hroom78; obtain ⟨A78, hA78⟩ : ∃ A1, A1 = (if co76 = (4 : Int).toNat then Ao76 else (Ao76 : Option Addr).map (·.add ((4 : Int).toNat * 1))) := ⟨_, rfl⟩; obtain ⟨c78, hc78⟩ : ∃ c1, c1 = co76 - (4 : Int).toNat := ⟨_, rfl⟩; have hy78 : y358.length = ((wrap64 ((y351.length : Int) - 4)) : Int).toNat - (4 : Int).toNat := (by rw [Ny358.out, List.length_drop, List.length_take] <;> omega); rw [show ((y351).take ((wrap64 ((y351.length : Int) - 4)) : Int).toNat).drop (4 : Int).toNat = y358 from Ny358.out.symm] at hr78; replace hr78 : Kd.C (Kd.int .u8) _ A78 y358.length y358 := (by rw [hA78]; exact hr78); rw [← hy78, ← hA78, ← hc78] at hcut78; have HR361 := Aside0.mk hr78; have HC361 := Aside0.mk (show y358.length ≤ c78 from by rw [hy78, hc78]; exact Nat.sub_le_sub_right (Nat.le_trans (by omega) hroom78) _); clear hr78 hC78 hroom78 hi078 hsz78 hc78; have KY78 := Aside0.mk hy78; have KA78 := Aside0.mk hA78; clear hy78 hA78; have KL78 := Aside0.mk (show ((wrap64 ((y351.length : Int) - 4)) : Int).toNat ≤ y351.length from by omega); have KM78 := Aside0.mk (show 4 ≤ ((wrap64 ((y351.length : Int) - 4)) : Int).toNat from by omega); replace q78 := eq_true q78; obtain ⟨Ao79, co79, eo79⟩ := Kd.R_slice HO357.out; subst eo79) | (go_at_call 18; (with_reducible refine (garlandlaw05_same.calls _ _ t354 _ _ y358 true _ ?side1 ?side2 ?side3 ?side4 A47.out).mono ?_); (case side1 => repeat (first | exact (Kd.R_reads' HO357.out).2.2 | (with_reducible refine Kd.C_alloc ?_ _) | (with_reducible refine Kd.C_drewN ?_ _) | (with_reducible refine Kd.C_drew ?_))); (case side2 => exact (Kd.R_reads' HO357.out).2.1); (case side3 => repeat (first | exact (by repeat (first | (with_reducible exact HR361.out) | (with_reducible refine Kd.C_alloc ?_ _) | (with_reducible refine Kd.C_drewN ?_ _) | (with_reducible refine Kd.C_drew ?_) | exact HR361.out)) | (with_reducible refine Kd.C_alloc ?_ _) | (with_reducible refine Kd.C_drewN ?_ _) | (with_reducible refine Kd.C_drew ?_))); (case side4 => exact HC361.out); rintro e w' ⟨rfl, ⟨nd, rfl⟩⟩) | (go_at_call 18; (with_reducible refine (garlandlaw05_same.calls _ _ l0 _ _ l1 false _ ?side1 ?side2 ?side3 ?side4 A49.out).mono ?_); (case side1 => repeat (first | exact (Kd.C_below HR0.out (by repeat (first | (with_reducible first | exact HB.out | apply below_alloc | apply pw_below_drewN | apply below_drew1) | exact HB.out))) | (with_reducible refine Kd.C_alloc ?_ _) | (with_reducible refine Kd.C_drewN ?_ _) | (with_reducible refine Kd.C_drew ?_))); (case side2 => exact HC0.out); (case side3 => repeat (first | exact (Kd.C_below HR1.out (by repeat (first | (with_reducible first | exact HB.out | apply below_alloc | apply pw_below_drewN | apply below_drew1) | exact HB.out))) | (with_reducible refine Kd.C_alloc ?_ _) | (with_reducible refine Kd.C_drewN ?_ _) | (with_reducible refine Kd.C_drew ?_))); (case side4 => exact HC1.out); rintro e w' ⟨rfl, ⟨nd, rfl⟩⟩) | (go_at_call 9; (with_reducible refine (garlandlaw05_wakes.calls  t365 _ A66.out).mono ?_); rintro e w80 ⟨rfl, hb⟩; have n7_ := Aside0.mk (below_step (by repeat (first | (with_reducible first | exact HB.out | apply below_alloc | apply pw_below_drewN | apply below_drew1) | exact HB.out)) hb); clear HB; have HB := n7_; clear n7_; (try clear hb)))
                                          go_ret
                                          exact ⟨by first | rfl | (simp [errW_none, errW_some] <;> rfl) | (simp only [← hji36]; first | rfl | (simp [errW_none, errW_some] <;> rfl)) | (simp [*, errW_none, errW_some] <;> rfl), by repeat (first | (with_reducible first | exact HB.out | apply below_alloc | apply pw_below_drewN | apply below_drew1) | exact HB.out)⟩
                                      · replace c48 := Bool.eq_false_iff.mpr c48
                                        subst c48
                                        have H1 : (none) = some r := by rw [if_neg (show ¬ (false = true) by decide)] at H; exact H
                                        clear H
                                        have H := H1
                                        clear H1
                                        exact absurd H (by simp)
                                    · rw [if_neg c46] at H
                                      exact absurd H (by simp)
                                  · rw [if_neg c45] at H
                                    exact absurd H (by simp)
                                · rw [if_neg c44] at H
                                  have c44b0 : (t355 == 0) = false := beq_eq_false_iff_ne.mpr c44
                                  have c44b1 : (t355 != 0) = true := bne_iff_ne.mpr c44
                                  replace H := Option.bind_eq_some_iff.mp H
                                  obtain ⟨t366, A810, H⟩ := H
                                  replace H : (if t366 = true then (none) else ((garlandlaw05_wakes.f).bind fun t367 => (some t367))) = some r := H
                                  have A81 := Aside0.mk A810
                                  clear A810
                                  by_cases c82 : t366 = true
                                  · subst c82
                                    have H1 : (none) = some r := by rw [if_pos rfl] at H; exact H
                                    clear H
                                    have H := H1
                                    clear H1
                                    exact absurd H (by simp)
                                  · replace c82 := Bool.eq_false_iff.mpr c82
                                    subst c82
                                    have H1 : ((garlandlaw05_wakes.f).bind fun t367 => (some t367)) = some r := by rw [if_neg (show ¬ (false = true) by decide)] at H; exact H
                                    clear H
                                    have H := H1
                                    clear H1
                                    replace H := Option.bind_eq_some_iff.mp H
                                    obtain ⟨t367, A830, H⟩ := H
                                    replace H : (some t367) = some r := H
                                    have A83 := Aside0.mk A830
                                    clear A830
                                    obtain rfl := Option.some.inj H
                                    try go_wp2
                                    have n0_ := Aside0.mk (Kd.R_drew HO_7.out)
                                    have n1_ := Aside0.mk (Kd.R_drew HO_9.out)
                                    have n2_ := Aside0.mk (below_drew1 HB.out)
                                    clear HO_7
                                    clear HO_9
                                    clear HB
                                    have HO_7 := n0_
                                    have HO_9 := n1_
                                    have HB := n2_
                                    clear n0_ n1_ n2_
                                    obtain ⟨Ao86, co86, eo86⟩ := Kd.R_slice HO_7.out
                                    (first | subst eo86 | (injection eo86 with f1_ f2_ f3_; have f4_ := f1_.symm; have f5_ := f3_.symm; clear f1_ f2_ f3_; subst f4_; subst f5_))
                                    have q85 : ((ji36) : Int) ≤ ((t325.length : Int) : Int) := of_decide_eq_true (by first | (with_reducible assumption) | assumption)
                                    obtain ⟨i085, hi085, _, hsz85, _⟩ := info_parts info5
                                    have hroom85 : t325.length ≤ co86 := (Kd.R_reads' HO_7.out).2.1
                                    have hC85 : Kd.C (Kd.int .u8) _ Ao86 t325.length t325 := (Kd.R_reads' HO_7.out).2.2
                                    have hcut85 := cut_to (P := Try.prog) 23 5 .i64 Try.underlying23 hi085 Ao86 t325.length co86 (ji36) (of_decide_eq_true (by first | (with_reducible assumption) | assumption)) q85 hroom85
                                    have hr85 := Kd.C_take (m := ((ji36) : Int).toNat) hC85 (by omega)
                                    have hy85 : y340.length = ((ji36) : Int).toNat := (by rw [Ny340.out, List.length_take]; omega)
                                    rw [← Ny340.out] at hr85
                                    rw [← hy85] at hcut85
                                    have HR343 := Aside0.mk hr85
                                    have HC343 := Aside0.mk (show y340.length ≤ co86 from by omega)
                                    clear hr85 hC85 hroom85 hi085 hsz85
                                    have KY85 := Aside0.mk hy85
                                    clear hy85
                                    have KL85 := Aside0.mk (show ((ji36) : Int).toNat ≤ t325.length from by omega)
                                    replace q85 := eq_true q85
                                    obtain ⟨Ao88, co88, eo88⟩ := Kd.R_slice HO_9.out
                                    (first | subst eo88 | (injection eo88 with f1_ f2_ f3_; have f4_ := f1_.symm; have f5_ := f3_.symm; clear f1_ f2_ f3_; subst f4_; subst f5_))
                                    have q87 : ((ji36) : Int) ≤ ((t329.length : Int) : Int) := of_decide_eq_true (by first | (with_reducible assumption) | assumption)
                                    obtain ⟨i087, hi087, _, hsz87, _⟩ := info_parts info5
                                    have hroom87 : t329.length ≤ co88 := (Kd.R_reads' HO_9.out).2.1
                                    have hC87 : Kd.C (Kd.int .u8) _ Ao88 t329.length t329 := (Kd.R_reads' HO_9.out).2.2
                                    have q087 : (0 : Int) ≤ ((ji36) : Int) := of_decide_eq_true (by first | (with_reducible assumption) | assumption)
                                    have hcut87 := cut_from (P := Try.prog) 23 5 .i64 Try.underlying23 hi087 1 hsz87 Ao88 t329.length co88 (ji36) q087 q87
                                    have hr87 := Kd.C_drop (m := ((ji36) : Int).toNat) (c := co88) hC87 (by omega) hroom87
                                    obtain ⟨A87, hA87⟩ : ∃ A1, A1 = (if co88 = ((ji36) : Int).toNat then Ao88 else (Ao88 : Option Addr).map (·.add (((ji36) : Int).toNat * 1))) := ⟨_, rfl⟩
                                    obtain ⟨c87, hc87⟩ : ∃ c1, c1 = co88 - ((ji36) : Int).toNat := ⟨_, rfl⟩
                                    have hy87 : y347.length = t329.length - ((ji36) : Int).toNat := (by rw [Ny347.out, List.length_drop] <;> omega)
                                    rw [show (t329).drop ((ji36) : Int).toNat = y347 from Ny347.out.symm] at hr87
                                    replace hr87 : Kd.C (Kd.int .u8) _ A87 y347.length y347 := (by rw [hA87]; exact hr87)
                                    rw [← hy87, ← hA87, ← hc87] at hcut87
                                    have HR350 := Aside0.mk hr87
                                    have HC350 := Aside0.mk (show y347.length ≤ c87 from by rw [hy87, hc87]; exact Nat.sub_le_sub_right hroom87 _)
                                    clear hr87 hC87 hroom87 hi087 hsz87 hc87
                                    have KY87 := Aside0.mk hy87
                                    have KA87 := Aside0.mk hA87
                                    clear hy87 hA87
                                    have KL87 := Aside0.mk (show ((ji36) : Int).toNat ≤ t329.length from by omega)
                                    replace q87 := eq_true q87
                                    refine start_ (n := 10) (S := fun w' => True) (ds := []) #[false, false, false, false, false, false, false, false, false, false] (by kernel_rfl) rfl rfl trivial (fun hHeld => ?_); refine with_tabW garlandlaw05_FrameApart.tab10 garlandlaw05_FrameApart.bits10 (fun HT_ HW_ => ?_)
                                    generalize wc.drew = w84 at HO_7 HO_9 HB HR343 HR350 hHeld ⊢
                                    refine pure_ (i := 1) (N := some 98) (v := ?_) (a' := ?_) #[false, true, false, false, false, false, false, false, false, false] rfl rfl (any_of HT_.out (by kernel_rfl)) (fun _ _ _ h => h) (Or.inl ⟨by rfl, ?_⟩) ?_ ?_
                                    rotate_left
                                    · intro w'
                                      go_simp
                                      with_reducible rfl
                                    rotate_left
                                    · simp only [Act.put, List.setIfInBounds_toArray, List.set_cons_zero, List.set_cons_succ, i64_w, i32_w]
                                      rfl
                                    refine pure_ (i := 2) (N := some 99) (v := ?_) (a' := ?_) #[false, true, true, false, false, false, false, false, false, false] rfl rfl (any_of HT_.out (by kernel_rfl)) (fun _ _ _ h => h) (Or.inl ⟨by rfl, ?_⟩) ?_ ?_
                                    rotate_left
                                    · intro w'
                                      go_simp
                                      with_reducible rfl
                                    rotate_left
                                    · simp only [Act.put, List.setIfInBounds_toArray, List.set_cons_zero, List.set_cons_succ, i64_w, i32_w]
                                      rfl
                                    refine pure_ (i := 3) (N := some 100) (v := ?_) (a' := ?_) #[false, true, true, true, false, false, false, false, false, false] rfl rfl (any_of HT_.out (by kernel_rfl)) (fun _ _ _ h => h) (Or.inl ⟨by rfl, ?_⟩) ?_ ?_
                                    rotate_left
                                    · intro w'
                                      go_simp
                                      with_reducible rfl
                                    rotate_left
                                    · simp only [Act.put, List.setIfInBounds_toArray, List.set_cons_zero, List.set_cons_succ, i64_w, i32_w]
                                      rfl
                                    refine pure_ (i := 5) (N := some 102) (v := ?_) (a' := ?_) #[false, true, true, true, false, true, false, false, false, false] rfl rfl (any_of HT_.out (by kernel_rfl)) (fun _ _ _ h => h) (Or.inl ⟨by rfl, ?_⟩) ?_ ?_
                                    rotate_left
                                    · intro w'
                                      go_simp
                                      with_reducible rfl
                                    rotate_left
                                    · simp only [Act.put, List.setIfInBounds_toArray, List.set_cons_zero, List.set_cons_succ, i64_w, i32_w]
                                      rfl
                                    refine pure_ (i := 6) (N := some 103) (v := ?_) (a' := ?_) #[false, true, true, true, false, true, true, false, false, false] rfl rfl (any_of HT_.out (by kernel_rfl)) (fun _ _ _ h => h) (Or.inl ⟨by rfl, ?_⟩) ?_ ?_
                                    rotate_left
                                    · intro w'
                                      go_simp
                                      with_reducible rfl
                                    rotate_left
                                    · simp only [Act.put, List.setIfInBounds_toArray, List.set_cons_zero, List.set_cons_succ, i64_w, i32_w]
                                      rfl
                                    refine pure_ (i := 7) (N := some 104) (v := ?_) (a' := ?_) #[false, true, true, true, false, true, true, true, false, false] rfl rfl (any_of HT_.out (by kernel_rfl)) (fun _ _ _ h => h) (Or.inl ⟨by rfl, ?_⟩) ?_ ?_
                                    rotate_left
                                    · intro w'
                                      go_simp
                                      with_reducible rfl
                                    rotate_left
                                    · simp only [Act.put, List.setIfInBounds_toArray, List.set_cons_zero, List.set_cons_succ, i64_w, i32_w]
                                      rfl
                                    refine one_ (i := 0) (N := some 97) #[true, true, true, true, false, true, true, true, false, false] rfl rfl (one_of HT_.out (by kernel_rfl)) (by decide) (fun K hK => ?_)
                                    refine Kd.R_lit_step (Kd.int .u8) _ 5 ?hg (N := 97) ?hd (xs := ([] : List Int)) (inner := []) (ok := fun _ => True) (okp := fun _ => True) ?hr ?hp (fun _ hk => hk) trivial (Below.refl _ _) (Nat.le_refl _) (by simp) ?_; (case hd => rfl); (case hg => rfl); (case hr => first | (go_simp; done) | (go_simp; rfl)); (case hp => exact (Reps.none _ _))
                                    intro v338 w89 ho90 hb hg_ hnew_
                                    clear hg_ hnew_
                                    (first | rw [← Ny337.out] at ho90 | (simp only [Int.reduceToNat] at ho90; rw [← Ny337.out] at ho90))
                                    have n0_ := Aside0.mk (Kd.R_elder' (by (with_reducible repeat (first | apply Kd.R_alloc | apply Kd.R_drewN | apply Kd.R_drew)); exact HO_7.out) (Kd.R_base ho90) hb)
                                    have n1_ := Aside0.mk (Kd.R_elder' (by (with_reducible repeat (first | apply Kd.R_alloc | apply Kd.R_drewN | apply Kd.R_drew)); exact HO_9.out) (Kd.R_base ho90) hb)
                                    have n2_ := Aside0.mk (Kd.R_lower (Kd.R_new' (Kd.R_new' ho90 (Kd.R_lt (by (with_reducible repeat (first | apply Kd.R_alloc | apply Kd.R_drewN | apply Kd.R_drew)); exact HO_7.out))) (Kd.R_lt (by (with_reducible repeat (first | apply Kd.R_alloc | apply Kd.R_drewN | apply Kd.R_drew)); exact HO_9.out))) (below_size (by repeat (first | (with_reducible first | exact HB.out | apply below_alloc | apply pw_below_drewN | apply below_drew1) | exact HB.out))))
                                    have n3_ := Aside0.mk (Kd.C_below (by repeat (first | (with_reducible exact HR343.out) | (with_reducible refine Kd.C_alloc ?_ _) | (with_reducible refine Kd.C_drewN ?_ _) | (with_reducible refine Kd.C_drew ?_) | exact HR343.out)) hb)
                                    have n4_ := Aside0.mk (Kd.C_below (by repeat (first | (with_reducible exact HR350.out) | (with_reducible refine Kd.C_alloc ?_ _) | (with_reducible refine Kd.C_drewN ?_ _) | (with_reducible refine Kd.C_drew ?_) | exact HR350.out)) hb)
                                    have n5_ := Aside0.mk (below_step (by repeat (first | (with_reducible first | exact HB.out | apply below_alloc | apply pw_below_drewN | apply below_drew1) | exact HB.out)) hb)
                                    clear HO_7
                                    clear HO_9
                                    clear HR343
                                    clear HR350
                                    clear HB
                                    have HO_7 := n0_
                                    have HO_9 := n1_
                                    have HO339 := n2_
                                    have HR343 := n3_
                                    have HR350 := n4_
                                    have HB := n5_
                                    clear n0_ n1_ n2_ n3_ n4_ n5_
                                    clear hb ho90
                                    refine hK.out _ _ trivial (fun hHeld => ?_)
                                    clear hK K
                                    refine norm_ (a' := ?_) ?_ ?_
                                    rotate_left
                                    · show Act.put _ (some 97) _ = _
                                      simp only [Act.put, List.setIfInBounds_toArray, List.set_cons_zero, List.set_cons_succ, i64_w, i32_w]
                                      rfl
                                    refine one_ (i := 4) (N := some 101) #[true, true, true, true, true, true, true, true, false, false] rfl rfl (one_of HT_.out (by kernel_rfl)) (by decide) (fun K hK => ?_)
                                    refine Kd.R_append_rows_step (Kd.int .u8) (w0 := w) w.heap.size (by rfl) (.tmp 97) (.tmp 100) 23 5 (.int .u8 0) 1 rfl Try.underlying23 info5 rfl (by decide) (by omega) v338 y337 y340 _ _ _ (fun k_ => some k_ ≠ (.slice Ao86 t325.length co86 : Value).ownBlock ∧ some k_ ≠ (.slice Ao88 t329.length co88 : Value).ownBlock) (fun _ => False) rfl rfl ?aO ?aR (fun _ _ h => h) (fun _ h => h.elim) ?aF ?aB ?aS ?aL ?_
                                    (case aR => repeat (first | exact (by repeat (first | (with_reducible exact HR343.out) | (with_reducible refine Kd.C_alloc ?_ _) | (with_reducible refine Kd.C_drewN ?_ _) | (with_reducible refine Kd.C_drew ?_) | exact HR343.out)) | (with_reducible refine Kd.C_alloc ?_ _) | (with_reducible refine Kd.C_drewN ?_ _) | (with_reducible refine Kd.C_drew ?_)))
                                    (case aB => exact (by repeat (first | (with_reducible first | exact HB.out | apply below_alloc | apply pw_below_drewN | apply below_drew1) | exact HB.out)))
                                    (case aF => exact (fun k_ hk => ⟨Kd.fresh' (Kd.R_lt (by (with_reducible repeat (first | apply Kd.R_alloc | apply Kd.R_drewN | apply Kd.R_drew)); exact HO_7.out)) k_ hk, Kd.fresh' (Kd.R_lt (by (with_reducible repeat (first | apply Kd.R_alloc | apply Kd.R_drewN | apply Kd.R_drew)); exact HO_9.out)) k_ hk⟩))
                                    (case aO => exact (by (with_reducible repeat (first | apply Kd.R_alloc | apply Kd.R_drewN | apply Kd.R_drew)); exact Kd.R_mono HO339.out (fun _ hk => ⟨hk.1.2, hk.2⟩)))
                                    (case aS => exact (below_size (by repeat (first | (with_reducible first | exact HB.out | apply below_alloc | apply pw_below_drewN | apply below_drew1) | exact HB.out))))
                                    (case aL => have := LMc39.out; omega)
                                    intro v345 w91 ho hb hg hat
                                    rw [← Ny344.out] at ho
                                    have n0_ := Aside0.mk (Kd.R_after (ok := (fun k_ => some k_ ≠ (.slice Ao88 t329.length co88 : Value).ownBlock)) (by (with_reducible repeat (first | apply Kd.R_alloc | apply Kd.R_drewN | apply Kd.R_drew)); exact HO_7.out) hg hat)
                                    have n1_ := Aside0.mk (Kd.R_after (ok := (fun k_ => some k_ ≠ (.slice Ao86 t325.length co86 : Value).ownBlock)) (by (with_reducible repeat (first | apply Kd.R_alloc | apply Kd.R_drewN | apply Kd.R_drew)); exact HO_9.out) hg hat)
                                    have n2_ := Aside0.mk (hb)
                                    have n3_ := Aside0.mk ((show Kd.C (Kd.int .u8) w91 Ao86 y340.length y340 from by rw [Ny340.out]; exact Kd.C_take (m := ((ji36) : Int).toNat) ((Kd.R_reads' (Kd.R_after (ok := (fun k_ => some k_ ≠ (.slice Ao88 t329.length co88 : Value).ownBlock)) (by (with_reducible repeat (first | apply Kd.R_alloc | apply Kd.R_drewN | apply Kd.R_drew)); exact HO_7.out) hg hat)).2.2) KL85.out))
                                    have n4_ := Aside0.mk ((show Kd.C (Kd.int .u8) w91 A87 y347.length y347 from by rw [Ny347.out, KA87.out]; exact Kd.C_drop (m := ((ji36) : Int).toNat) (c := co88) ((Kd.R_reads' (Kd.R_after (ok := (fun k_ => some k_ ≠ (.slice Ao86 t325.length co86 : Value).ownBlock)) (by (with_reducible repeat (first | apply Kd.R_alloc | apply Kd.R_drewN | apply Kd.R_drew)); exact HO_9.out) hg hat)).2.2) KL87.out ((Kd.R_reads' (Kd.R_after (ok := (fun k_ => some k_ ≠ (.slice Ao86 t325.length co86 : Value).ownBlock)) (by (with_reducible repeat (first | apply Kd.R_alloc | apply Kd.R_drewN | apply Kd.R_drew)); exact HO_9.out) hg hat)).2.1)))
                                    have n5_ := Aside0.mk (ho)
                                    clear HO_7
                                    clear HO_9
                                    clear HB
                                    clear HR343
                                    clear HR350
                                    clear HO339
                                    have HO_7 := n0_
                                    have HO_9 := n1_
                                    have HB := n2_
                                    have HR343 := n3_
                                    have HR350 := n4_
                                    have HO346 := n5_
                                    clear n0_ n1_ n2_ n3_ n4_ n5_
                                    clear ho hb hg hat
                                    refine hK.out _ _ trivial (fun hHeld => ?_)
                                    clear hK K
                                    refine norm_ (a' := ?_) ?_ ?_
                                    rotate_left
                                    · show Act.put _ (some 101) _ = _
                                      simp only [Act.put, List.setIfInBounds_toArray, List.set_cons_zero, List.set_cons_succ, i64_w, i32_w]
                                      rfl
                                    refine one_ (i := 8) (N := some 105) #[true, true, true, true, true, true, true, true, true, false] rfl rfl (one_of HT_.out (by kernel_rfl)) (by decide) (fun K hK => ?_)
                                    refine Kd.R_append_rows_step (Kd.int .u8) (w0 := w) w.heap.size (by rfl) (.tmp 101) (.tmp 104) 23 5 (.int .u8 0) 1 rfl Try.underlying23 info5 rfl (by decide) (by omega) v345 y344 y347 _ _ _ (fun k_ => some k_ ≠ (.slice Ao86 t325.length co86 : Value).ownBlock ∧ some k_ ≠ (.slice Ao88 t329.length co88 : Value).ownBlock) (fun _ => False) rfl rfl ?aO ?aR (fun _ _ h => h) (fun _ h => h.elim) ?aF ?aB ?aS ?aL ?_
                                    (case aR => repeat (first | exact (by repeat (first | (with_reducible exact HR350.out) | (with_reducible refine Kd.C_alloc ?_ _) | (with_reducible refine Kd.C_drewN ?_ _) | (with_reducible refine Kd.C_drew ?_) | exact HR350.out)) | (with_reducible refine Kd.C_alloc ?_ _) | (with_reducible refine Kd.C_drewN ?_ _) | (with_reducible refine Kd.C_drew ?_)))
                                    (case aB => exact (by repeat (first | (with_reducible first | exact HB.out | apply below_alloc | apply pw_below_drewN | apply below_drew1) | exact HB.out)))
                                    (case aF => exact (fun k_ hk => ⟨Kd.fresh' (Kd.R_lt (by (with_reducible repeat (first | apply Kd.R_alloc | apply Kd.R_drewN | apply Kd.R_drew)); exact HO_7.out)) k_ hk, Kd.fresh' (Kd.R_lt (by (with_reducible repeat (first | apply Kd.R_alloc | apply Kd.R_drewN | apply Kd.R_drew)); exact HO_9.out)) k_ hk⟩))
                                    (case aO => exact (by (with_reducible repeat (first | apply Kd.R_alloc | apply Kd.R_drewN | apply Kd.R_drew)); exact HO346.out))
                                    (case aS => exact (below_size (by repeat (first | (with_reducible first | exact HB.out | apply below_alloc | apply pw_below_drewN | apply below_drew1) | exact HB.out))))
                                    (case aL => have := LMc42.out; omega)
                                    intro v352 w92 ho hb hg hat
                                    rw [← Ny351.out] at ho
                                    have n0_ := Aside0.mk (Kd.R_after (ok := (fun k_ => some k_ ≠ (.slice Ao88 t329.length co88 : Value).ownBlock)) (by (with_reducible repeat (first | apply Kd.R_alloc | apply Kd.R_drewN | apply Kd.R_drew)); exact HO_7.out) hg hat)
                                    have n1_ := Aside0.mk (Kd.R_after (ok := (fun k_ => some k_ ≠ (.slice Ao86 t325.length co86 : Value).ownBlock)) (by (with_reducible repeat (first | apply Kd.R_alloc | apply Kd.R_drewN | apply Kd.R_drew)); exact HO_9.out) hg hat)
                                    have n2_ := Aside0.mk (hb)
                                    have n3_ := Aside0.mk ((show Kd.C (Kd.int .u8) w92 Ao86 y340.length y340 from by rw [Ny340.out]; exact Kd.C_take (m := ((ji36) : Int).toNat) ((Kd.R_reads' (Kd.R_after (ok := (fun k_ => some k_ ≠ (.slice Ao88 t329.length co88 : Value).ownBlock)) (by (with_reducible repeat (first | apply Kd.R_alloc | apply Kd.R_drewN | apply Kd.R_drew)); exact HO_7.out) hg hat)).2.2) KL85.out))
                                    have n4_ := Aside0.mk ((show Kd.C (Kd.int .u8) w92 A87 y347.length y347 from by rw [Ny347.out, KA87.out]; exact Kd.C_drop (m := ((ji36) : Int).toNat) (c := co88) ((Kd.R_reads' (Kd.R_after (ok := (fun k_ => some k_ ≠ (.slice Ao86 t325.length co86 : Value).ownBlock)) (by (with_reducible repeat (first | apply Kd.R_alloc | apply Kd.R_drewN | apply Kd.R_drew)); exact HO_9.out) hg hat)).2.2) KL87.out ((Kd.R_reads' (Kd.R_after (ok := (fun k_ => some k_ ≠ (.slice Ao86 t325.length co86 : Value).ownBlock)) (by (with_reducible repeat (first | apply Kd.R_alloc | apply Kd.R_drewN | apply Kd.R_drew)); exact HO_9.out) hg hat)).2.1)))
                                    have n5_ := Aside0.mk (ho)
                                    clear HO_7
                                    clear HO_9
                                    clear HB
                                    clear HR343
                                    clear HR350
                                    clear HO346
                                    have HO_7 := n0_
                                    have HO_9 := n1_
                                    have HB := n2_
                                    have HR343 := n3_
                                    have HR350 := n4_
                                    have HO353 := n5_
                                    clear n0_ n1_ n2_ n3_ n4_ n5_
                                    clear ho hb hg hat
                                    refine hK.out _ _ trivial (fun hHeld => ?_)
                                    clear hK K
                                    refine norm_ (a' := ?_) ?_ ?_
                                    rotate_left
                                    · show Act.put _ (some 105) _ = _
                                      simp only [Act.put, List.setIfInBounds_toArray, List.set_cons_zero, List.set_cons_succ, i64_w, i32_w]
                                      rfl
                                    refine pure_ (i := 9) (N := some 11) (v := ?_) (a' := ?_) #[true, true, true, true, true, true, true, true, true, true] rfl rfl (any_of HT_.out (by kernel_rfl)) (fun _ _ _ h => h) (Or.inl ⟨by rfl, ?_⟩) ?_ ?_
                                    rotate_left
                                    · intro w'
                                      go_simp
                                      with_reducible rfl
                                    rotate_left
                                    · simp only [Act.put, List.setIfInBounds_toArray, List.set_cons_zero, List.set_cons_succ, i64_w, i32_w]
                                      rfl
                                    refine done_ (done_of HT_.out (by kernel_rfl)) ?_
                                    obtain ⟨Ao93, co93, eo93⟩ := Kd.R_slice HO353.out
                                    subst eo93
                                    try go_wp2_with (first | ((with_reducible refine gate_callee (f := 12) rfl ?_); refine goesL_ (some 108) rfl rfl Try.func12 (by kernel_rfl) rfl #[.slice Ao93 y351.length co93] rfl (by (try simp only [List.map_toArray, List.map_cons, List.map_nil]); first | done | rfl | (simp only [List.length_drop, List.length_take]; rfl)) ?_; (with_reducible refine (frame_Open.calls _ _ y351 t354 t355 _ ?side1 ?side2 A43.out).mono ?_); (case side1 => repeat (first | exact (Kd.R_reads' HO353.out).2.2 | (with_reducible refine Kd.C_alloc ?_ _) | (with_reducible refine Kd.C_drewN ?_ _) | (with_reducible refine Kd.C_drew ?_))); (case side2 => exact (Kd.R_reads' HO353.out).2.1); rintro e w94 ⟨v356, rfl, ho0, hb⟩; refine ⟨_, rfl, ?_⟩; have n0_ := Aside0.mk (Kd.R_elder' (by (with_reducible repeat (first | apply Kd.R_alloc | apply Kd.R_drewN | apply Kd.R_drew)); exact HO_7.out) (Kd.R_base ho0) hb); have n1_ := Aside0.mk (Kd.R_elder' (by (with_reducible repeat (first | apply Kd.R_alloc | apply Kd.R_drewN | apply Kd.R_drew)); exact HO_9.out) (Kd.R_base ho0) hb); have n2_ := Aside0.mk (Kd.R_elder' (by (with_reducible repeat (first | apply Kd.R_alloc | apply Kd.R_drewN | apply Kd.R_drew)); exact HO353.out) (Kd.R_base ho0) hb); have n3_ := Aside0.mk (Kd.R_lower (Kd.R_new' (Kd.R_new' (Kd.R_new' ho0 (Kd.R_lt (by (with_reducible repeat (first | apply Kd.R_alloc | apply Kd.R_drewN | apply Kd.R_drew)); exact HO_7.out))) (Kd.R_lt (by (with_reducible repeat (first | apply Kd.R_alloc | apply Kd.R_drewN | apply Kd.R_drew)); exact HO_9.out))) (Kd.R_lt (by (with_reducible repeat (first | apply Kd.R_alloc | apply Kd.R_drewN | apply Kd.R_drew)); exact HO353.out))) (below_size (by repeat (first | (with_reducible first | exact HB.out | apply below_alloc | apply pw_below_drewN | apply below_drew1) | exact HB.out)))); have n4_ := Aside0.mk (Kd.C_below (by repeat (first | (with_reducible exact HR343.out) | (with_reducible refine Kd.C_alloc ?_ _) | (with_reducible refine Kd.C_drewN ?_ _) | (with_reducible refine Kd.C_drew ?_) | exact HR343.out)) hb); have n5_ := Aside0.mk (Kd.C_below (by repeat (first | (with_reducible exact HR350.out) | (with_reducible refine Kd.C_alloc ?_ _) | (with_reducible refine Kd.C_drewN ?_ _) | (with_reducible refine Kd.C_drew ?_) | exact HR350.out)) hb); have n6_ := Aside0.mk (below_step (by repeat (first | (with_reducible first | exact HB.out | apply below_alloc | apply pw_below_drewN | apply below_drew1) | exact HB.out)) hb); clear HO_7; clear HO_9; clear HO353; clear HR343; clear HR350; clear HB; have HO_7 := n0_; have HO_9 := n1_; have HO353 := n2_; have HO357 := n3_; have HR343 := n4_; have HR350 := n5_; have HB := n6_; clear n0_ n1_ n2_ n3_ n4_ n5_ n6_; (try clear hb); (try clear hb2); (try clear hk); (try clear hi); (try clear ho0)) | (go_at_call 18; (with_reducible refine (garlandlaw05_same.calls _ _ l0 _ _ l1 false _ ?side1 ?side2 ?side3 ?side4 A81.out).mono ?_); (case side1 => repeat (first | exact (Kd.C_below HR0.out HB.out) | (with_reducible refine Kd.C_alloc ?_ _) | (with_reducible refine Kd.C_drewN ?_ _) | (with_reducible refine Kd.C_drew ?_))); (case side2 => exact HC0.out); (case side3 => repeat (first | exact (Kd.C_below HR1.out HB.out) | (with_reducible refine Kd.C_alloc ?_ _) | (with_reducible refine Kd.C_drewN ?_ _) | (with_reducible refine Kd.C_drew ?_))); (case side4 => exact HC1.out); rintro e w' ⟨rfl, ⟨nd, rfl⟩⟩) | (go_at_call 9; (with_reducible refine (garlandlaw05_wakes.calls  t367 _ A83.out).mono ?_); rintro e w95 ⟨rfl, hb⟩; have n6_ := Aside0.mk (below_step (by repeat (first | (with_reducible first | exact HB.out | apply below_alloc | apply pw_below_drewN | apply below_drew1) | exact HB.out)) hb); clear HB; have HB := n6_; clear n6_; (try clear hb)))
                                    go_ret
                                    exact ⟨by first | rfl | (simp [errW_none, errW_some] <;> rfl) | (simp only [← hji36]; first | rfl | (simp [errW_none, errW_some] <;> rfl)) | (simp [*, errW_none, errW_some] <;> rfl), by repeat (first | (with_reducible first | exact HB.out | apply below_alloc | apply pw_below_drewN | apply below_drew1) | exact HB.out)⟩
                              · rw [if_neg c42] at H
                                exact absurd H (by simp)
                            · rw [if_neg c41] at H
                              exact absurd H (by simp)
                          · rw [if_neg c39] at H
                            exact absurd H (by simp)
                        · rw [if_neg c38] at H
                          exact absurd H (by simp)
                      · rw [if_neg c37] at H
                        exact absurd H (by simp)

/-- THE ONE PURE STATEMENT of garlandlaw05_FrameApart: yours. -/
def garlandlaw05_FrameApart.Pure : Prop := ∀ (l0 : List Int) (l1 : List Int) (a2 : Int), l0.length ≤ maxLen → l0.length * 1 ≤ 140737488351232 → (∀ x ∈ l0, (Lit.int .u8 x).wf = true) → l1.length ≤ maxLen → l1.length * 1 ≤ 140737488351232 → (∀ x ∈ l1, (Lit.int .u8 x).wf = true) → (Lit.int .i64 a2).wf = true → ∃ k, garlandlaw05_FrameApart.f k l0 l1 a2 = some true
theorem garlandlaw05_FrameApart.walk (P : garlandlaw05_FrameApart.Pure) (a0 : Option Addr) (len0 cap0 : Nat) (z0 : List Int) (a1 : Option Addr) (len1 cap1 : Nat) (z1 : List Int) (a2 : Int) (w : World) (w0 : (a0 = none ∧ len0 = 0 ∧ cap0 = 0 ∧ z0 = []) ∨ ∃ x, a0 = some x ∧ len0 ≤ cap0 ∧ cap0 ≤ maxLen ∧ z0.length = cap0 ∧ (∀ i, i < z0.length → w.cell? (x.add i) = some (.int .u8 (z0.getD i 0))) ∧ ∀ n ∈ z0, (Lit.int .u8 n).wf = true) (y0 : len0 * 1 ≤ 140737488351232) (w1 : (a1 = none ∧ len1 = 0 ∧ cap1 = 0 ∧ z1 = []) ∨ ∃ x, a1 = some x ∧ len1 ≤ cap1 ∧ cap1 ≤ maxLen ∧ z1.length = cap1 ∧ (∀ i, i < z1.length → w.cell? (x.add i) = some (.int .u8 (z1.getD i 0))) ∧ ∀ n ∈ z1, (Lit.int .u8 n).wf = true) (y1 : len1 * 1 ≤ 140737488351232) (w2 : (Lit.int .i64 a2).wf = true) :
    Calls Try.prog 8 #[.slice a0 len0 cap0, .slice a1 len1 cap1, .int .i64 a2] w fun e w' => e = .returned (.bool true) ∧ Below w.heap.size w w' := by
  obtain ⟨l0, rfl, hr0, hm0, hw0, hc0⟩ := ReadsInt.ofRowC w0
  obtain ⟨l1, rfl, hr1, hm1, hw1, hc1⟩ := ReadsInt.ofRowC w1
  obtain ⟨k, h⟩ := P l0 l1 a2 hm0 y0 hw0 hm1 y1 hw1 w2
  refine (garlandlaw05_FrameApart.calls k _ _ l0 _ _ l1 a2 true w (Kd.C_of_reads (d := (0 : Int)) (h1 := fun _ => rfl) hr0) hc0 (Kd.C_of_reads (d := (0 : Int)) (h1 := fun _ => rfl) hr1) hc1 h).mono ?_
  rintro e w' ⟨rfl, hd⟩
  exact ⟨rfl, hd⟩

end Go.Proofs.Ytnehegnnpfdfbaa.G
