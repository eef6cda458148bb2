/- What BagFirst answers: printed by this session's program (wip/tools/gprint.py) over the contracts of the bag's functions. -/
import Derived.Test.YtoookgkhelcngaaMath
namespace Go.Proofs.Ytoookgkhelcngaa.G
open Go.RowKit Go.Proofs.YtoookgkhelcngaaW.PrintWords Go.Proofs.YtoookgkhelcngaaW.PrintLast Go.Proofs.YtoookgkhelcngaaW.PrintMore
attribute [local go_sem] max2_int min2_int max_two min_two max_three min_three max_four min_four   -- for this text's walks alone
set_option linter.unusedVariables false
set_option linter.unusedSimpArgs false

/-! ### garlandlaw08_BagFirst: function 3 -/
mutual
def garlandlaw08_BagFirst.l0 : Nat → List (S26) → Int → Int → Option (Bool)
  | 0, _, _, _ => none
  | k + 1, x0, x1, x5 => if x5 < (x0.length : Int) then (if 0 ≤ x5 then (if (((rd_T26 x0 x5).f1).length : Int) > 120 then ((garlandlaw08_wakes.f k).bind fun t184 => (some t184)) else (garlandlaw08_BagFirst.l0 k x0 x1 (wrap64 (x5 + 1)))) else (none)) else ((bag_Send.f ([] : List (S26)) 0 x0).bind fun bt185 => ((garlandref08_Grams.f k bt185.1 x0).bind fun t190 => (if t190 = true then (if (x0.length : Int) > 0 then (if (x0.length : Int) = 0 then (none) else ((bag_Take.f bt185.1 bt185.2 (Int.tmod (wrap64 ((Int.tmod x1 (x0.length : Int)) + (x0.length : Int))) (x0.length : Int))).bind fun bt191 => ((some (([] : List (S26)) : List (S26))).bind fun y203 => (if 0 ≤ (Int.tmod (wrap64 ((Int.tmod x1 (x0.length : Int)) + (x0.length : Int))) (x0.length : Int)) then (if (Int.tmod (wrap64 ((Int.tmod x1 (x0.length : Int)) + (x0.length : Int))) (x0.length : Int)) ≤ (x0.length : Int) then ((some (x0.take ((Int.tmod (wrap64 ((Int.tmod x1 (x0.length : Int)) + (x0.length : Int))) (x0.length : Int)) : Int).toNat : List (S26))).bind fun y206 => (if y203.length + y206.length < 3518437208883 then ((some (y203 ++ y206 : List (S26))).bind fun y211 => (if 0 ≤ (wrap64 ((Int.tmod (wrap64 ((Int.tmod x1 (x0.length : Int)) + (x0.length : Int))) (x0.length : Int)) + 1)) then (if (wrap64 ((Int.tmod (wrap64 ((Int.tmod x1 (x0.length : Int)) + (x0.length : Int))) (x0.length : Int)) + 1)) ≤ (x0.length : Int) then ((some (x0.drop ((wrap64 ((Int.tmod (wrap64 ((Int.tmod x1 (x0.length : Int)) + (x0.length : Int))) (x0.length : Int)) + 1)) : Int).toNat : List (S26))).bind fun y214 => (if y211.length + y214.length < 3518437208883 then (if bt191.2.2.2.2.2 = true then (if (Int.tmod (wrap64 ((Int.tmod x1 (x0.length : Int)) + (x0.length : Int))) (x0.length : Int)) < (x0.length : Int) then ((garlandref08_Gram.f bt191.2.2.1 bt191.2.2.2.1 bt191.2.2.2.2.1 ((rd_T26 x0 (Int.tmod (wrap64 ((Int.tmod x1 (x0.length : Int)) + (x0.length : Int))) (x0.length : Int))).f0) ((rd_T26 x0 (Int.tmod (wrap64 ((Int.tmod x1 (x0.length : Int)) + (x0.length : Int))) (x0.length : Int))).f1) ((rd_T26 x0 (Int.tmod (wrap64 ((Int.tmod x1 (x0.length : Int)) + (x0.length : Int))) (x0.length : Int))).f2)).bind fun t223 => (if t223 = true then ((garlandref08_Grams.f k bt191.1 (y211 ++ y214)).bind fun t224 => (if t224 = true then (garlandlaw08_BagFirst.j1 k x0 bt185.1 bt185.2) else (none))) else (none))) else (none)) else (none)) else (none))) else (none)) else (none))) else (none))) else (none)) else (none))))) else (garlandlaw08_BagFirst.j1 k x0 bt185.1 bt185.2)) else (none))))
def garlandlaw08_BagFirst.j1 : Nat → List (S26) → List (S26) → Int → Option (Bool)
  | 0, _, _, _ => none
  | k + 1, x0, x190000, x190001 => garlandlaw08_BagFirst.l1 k x0 0 x190000 x190001
def garlandlaw08_BagFirst.l1 : Nat → List (S26) → Int → List (S26) → Int → Option (Bool)
  | 0, _, _, _, _ => none
  | k + 1, x0, x11, x190000, x190001 => if x11 < (x0.length : Int) then ((bag_Take.f x190000 x190001 0).bind fun bt226 => (if bt226.2.2.2.2.2 = true then (if 0 ≤ x11 then ((garlandref08_Gram.f bt226.2.2.1 bt226.2.2.2.1 bt226.2.2.2.2.1 ((rd_T26 x0 x11).f0) ((rd_T26 x0 x11).f1) ((rd_T26 x0 x11).f2)).bind fun t239 => (if t239 = true then (garlandlaw08_BagFirst.l1 k x0 (wrap64 (x11 + 1)) bt226.1 bt226.2.1) else (none))) else (none)) else (none))) else (if (x190000.length : Int) = 0 then (if x190001 = 0 then ((garlandlaw08_wakes.f k).bind fun t225 => (some t225)) else (none)) else (none))
end
def garlandlaw08_BagFirst.f (k : Nat) (l0 : List (S26)) (a1 : Int) : Option (Bool) := if (l0.length : Int) > 30 then ((garlandlaw08_wakes.f k).bind fun t182 => (some t182)) else (garlandlaw08_BagFirst.l0 k l0 a1 0)
theorem garlandlaw08_BagFirst.mono_l : ∀ k, (∀ y0 y1 y2, LeO (garlandlaw08_BagFirst.l0 k y0 y1 y2) (garlandlaw08_BagFirst.l0 (k + 1) y0 y1 y2)) ∧ (∀ y0 y1 y2, LeO (garlandlaw08_BagFirst.j1 k y0 y1 y2) (garlandlaw08_BagFirst.j1 (k + 1) y0 y1 y2)) ∧ (∀ y0 y1 y2 y3, LeO (garlandlaw08_BagFirst.l1 k y0 y1 y2 y3) (garlandlaw08_BagFirst.l1 (k + 1) y0 y1 y2 y3))
  | 0 => ⟨fun _ _ _ r h => by simp [garlandlaw08_BagFirst.l0] at h, fun _ _ _ r h => by simp [garlandlaw08_BagFirst.j1] at h, fun _ _ _ _ r h => by simp [garlandlaw08_BagFirst.l1] at h⟩
  | k + 1 => by
    obtain ⟨ih0, ih1, ih2⟩ := garlandlaw08_BagFirst.mono_l k
    refine ⟨?_, ?_, ?_⟩
    · intro y0 y1 y2
      unfold garlandlaw08_BagFirst.l0
      repeat' first
      | (with_reducible exact ih0 _ _ _)
      | (with_reducible exact ih1 _ _ _)
      | (with_reducible exact ih2 _ _ _ _)
      | (with_reducible exact garlandlaw08_wakes.mono _)
      | (with_reducible exact garlandref08_Grams.mono _ _ _)
      | (with_reducible exact LeO.refl _)
      | (with_reducible exact LeO.none _)
      | (with_reducible refine LeO.ite ?_ ?_)
      | (with_reducible refine LeO.bind ?_ (fun _ => ?_))
      | exact ih0 _ _ _
      | exact ih1 _ _ _
      | exact ih2 _ _ _ _
      | exact garlandlaw08_wakes.mono _
      | exact garlandref08_Grams.mono _ _ _
      | exact LeO.none _
      | refine LeO.ite ?_ ?_
      | refine LeO.bind ?_ (fun _ => ?_)
    · intro y0 y1 y2
      unfold garlandlaw08_BagFirst.j1
      repeat' first
      | (with_reducible exact ih0 _ _ _)
      | (with_reducible exact ih1 _ _ _)
      | (with_reducible exact ih2 _ _ _ _)
      | (with_reducible exact garlandlaw08_wakes.mono _)
      | (with_reducible exact garlandref08_Grams.mono _ _ _)
      | (with_reducible exact LeO.refl _)
      | (with_reducible exact LeO.none _)
      | (with_reducible refine LeO.ite ?_ ?_)
      | (with_reducible refine LeO.bind ?_ (fun _ => ?_))
      | exact ih0 _ _ _
      | exact ih1 _ _ _
      | exact ih2 _ _ _ _
      | exact garlandlaw08_wakes.mono _
      | exact garlandref08_Grams.mono _ _ _
      | exact LeO.none _
      | refine LeO.ite ?_ ?_
      | refine LeO.bind ?_ (fun _ => ?_)
    · intro y0 y1 y2 y3
      unfold garlandlaw08_BagFirst.l1
      repeat' first
      | (with_reducible exact ih0 _ _ _)
      | (with_reducible exact ih1 _ _ _)
      | (with_reducible exact ih2 _ _ _ _)
      | (with_reducible exact garlandlaw08_wakes.mono _)
      | (with_reducible exact garlandref08_Grams.mono _ _ _)
      | (with_reducible exact LeO.refl _)
      | (with_reducible exact LeO.none _)
      | (with_reducible refine LeO.ite ?_ ?_)
      | (with_reducible refine LeO.bind ?_ (fun _ => ?_))
      | exact ih0 _ _ _
      | exact ih1 _ _ _
      | exact ih2 _ _ _ _
      | exact garlandlaw08_wakes.mono _
      | exact garlandref08_Grams.mono _ _ _
      | exact LeO.none _
      | refine LeO.ite ?_ ?_
      | refine LeO.bind ?_ (fun _ => ?_)
theorem garlandlaw08_BagFirst.mono : ∀ a0 a1 k, LeO (garlandlaw08_BagFirst.f k a0 a1) (garlandlaw08_BagFirst.f (k + 1) a0 a1) := by
  intro a0 a1 k
  obtain ⟨ih0, ih1, ih2⟩ := garlandlaw08_BagFirst.mono_l k
  unfold garlandlaw08_BagFirst.f
  repeat' first
      | (with_reducible exact ih0 _ _ _)
      | (with_reducible exact ih1 _ _ _)
      | (with_reducible exact ih2 _ _ _ _)
      | (with_reducible exact garlandlaw08_wakes.mono _)
      | (with_reducible exact garlandref08_Grams.mono _ _ _)
      | (with_reducible exact LeO.refl _)
      | (with_reducible exact LeO.none _)
      | (with_reducible refine LeO.ite ?_ ?_)
      | (with_reducible refine LeO.bind ?_ (fun _ => ?_))
      | exact ih0 _ _ _
      | exact ih1 _ _ _
      | exact ih2 _ _ _ _
      | exact garlandlaw08_wakes.mono _
      | exact garlandref08_Grams.mono _ _ _
      | exact LeO.none _
      | refine LeO.ite ?_ ?_
      | refine LeO.bind ?_ (fun _ => ?_)
def garlandlaw08_BagFirst.T14 : Bool × List (List Nat × List Nat) := (true, [([], []), ([], []), ([], []), ([1, 2], [1, 2]), ([0, 3], [0, 3]), ([], []), ([], []), ([6], [6]), ([5, 7], [5, 7]), ([4, 8, 4], [4, 8]), ([9, 9, 0, 1, 2, 3, 4, 5, 6, 7, 8, 9], [9])])
def garlandlaw08_BagFirst.B14 : List Nat := [0, 0, 0, 6, 15, 0, 0, 64, 224, 511, 1023]
theorem garlandlaw08_BagFirst.tab14 : rtab .any (opsOf Try.f3 14) = garlandlaw08_BagFirst.T14 := by kernel_rfl
theorem garlandlaw08_BagFirst.bits14 : waitsOk garlandlaw08_BagFirst.T14.2 garlandlaw08_BagFirst.B14 = true := by kernel_rfl
def garlandlaw08_BagFirst.T15 : Bool × List (List Nat × List Nat) := (true, [([], []), ([0], [0]), ([1], [1]), ([2], [2]), ([2], [2]), ([2], [2]), ([4, 5, 2], [2, 4, 5]), ([6, 2], [2, 6]), ([3, 7, 2, 2], [2, 3, 7]), ([8, 2], [2, 8]), ([2, 9], [2, 9]), ([10, 8], [10]), ([11], [11]), ([12, 11], [11, 12]), ([11], [11]), ([13, 14, 11, 11], [11, 13, 14]), ([15, 11], [11, 15]), ([11, 16], [11, 16])])
def garlandlaw08_BagFirst.B15 : List Nat := [0, 1, 3, 7, 7, 7, 55, 119, 255, 511, 1023, 2047, 4095, 8191, 4095, 32767, 65535, 131071]
theorem garlandlaw08_BagFirst.tab15 : rtab .any (opsOf Try.f3 15) = garlandlaw08_BagFirst.T15 := by kernel_rfl
theorem garlandlaw08_BagFirst.bits15 : waitsOk garlandlaw08_BagFirst.T15.2 garlandlaw08_BagFirst.B15 = true := by kernel_rfl
def garlandlaw08_BagFirst.T21 : Bool × List (List Nat × List Nat) := (true, [([], []), ([0], [0]), ([1], [1]), ([2], [2]), ([2], [2]), ([2], [2]), ([4, 5, 2], [2, 4, 5]), ([6, 2], [2, 6]), ([3, 7, 2, 2], [2, 3, 7]), ([8, 2], [2, 8]), ([2, 9], [2, 9])])
def garlandlaw08_BagFirst.B21 : List Nat := [0, 1, 3, 7, 7, 7, 55, 119, 255, 511, 1023]
theorem garlandlaw08_BagFirst.tab21 : rtab .any (opsOf Try.f3 21) = garlandlaw08_BagFirst.T21 := by kernel_rfl
theorem garlandlaw08_BagFirst.bits21 : waitsOk garlandlaw08_BagFirst.T21.2 garlandlaw08_BagFirst.B21 = true := by kernel_rfl
set_option maxHeartbeats 8000000 in
set_option maxRecDepth 100000 in
theorem garlandlaw08_BagFirst.calls (k : Nat) (P0_ : Nat → Prop) (A0 : Option Addr) (c0 : Nat) (l0 : List (S26)) (a1 : Int) (r : Bool) (w : World) (hs0 : Kd.V k26 26 w w.heap.size (fun k_ => P0_ k_) (.slice A0 l0.length c0) l0) (h : garlandlaw08_BagFirst.f k l0 a1 = some r) :
    Calls Try.prog 3 #[.slice A0 l0.length c0, .int .i64 a1] w fun e w' => e = .returned (.bool r) ∧ Below w.heap.size w w' := by
  have hu28 := Try.underlying28
  have hu26 := Try.underlying26
  have HO0 := Aside0.mk (show Kd.V k26 26 w w.heap.size (fun k_ => (P0_ k_ ∨ w.heap.size ≤ k_)) (.slice A0 l0.length c0) l0 from Kd.V_mono hs0 (fun k_ hk => .inl hk))
  have HB := Aside0.mk (Below.refl w.heap.size w)
  have H : (if (l0.length : Int) > 30 then ((garlandlaw08_wakes.f k).bind fun t182 => (some t182)) else (garlandlaw08_BagFirst.l0 k l0 a1 0)) = some r := h
  clear h
  by_cases c3 : (l0.length : Int) > 30
  · rw [if_pos c3] at H
    have c3b0 : decide (30 < (l0.length : Int)) = true := decide_eq_true c3
    have c3b1 : decide (30 < l0.length) = true := decide_eq_true (by omega)
    clear c3
    replace H := Option.bind_eq_some_iff.mp H
    obtain ⟨t182, A40, H⟩ := H
    replace H : (some t182) = some r := H
    have A4 := Aside0.mk A40
    clear A40
    obtain rfl := Option.some.inj H
    go_enter Try.func3, Try.ntmps3
    go_wp2_with (first | ((with_reducible refine gate_callee (f := 6) rfl ?_); refine goesL_ (some 18) rfl rfl Try.func6 (by kernel_rfl) rfl #[] rfl (by (try simp only [List.map_toArray, List.map_cons, List.map_nil]); first | done | rfl | (simp only [List.length_drop, List.length_take]; rfl)) ?_; (with_reducible refine (garlandlaw08_wakes.calls k  t182 _ A4.out).mono ?_); rintro e w5 ⟨rfl, hb⟩; refine ⟨_, rfl, ?_⟩; have n0_ := Aside0.mk (Kd.V_below (by (with_reducible repeat (first | apply Kd.V_alloc | apply Kd.V_drewN | apply Kd.V_drew)); exact HO0.out) hb); have n1_ := Aside0.mk (below_step (by repeat (first | (with_reducible first | exact HB.out | apply below_alloc | apply pw_below_drewN | apply below_drew1) | exact HB.out)) hb); clear HO0; clear HB; have HO0 := n0_; have HB := n1_; clear n0_ n1_; (try clear hb); (try clear hb2); (try clear hk); (try clear hi)))
    go_ret
    exact ⟨by first | rfl | (simp [errW_none, errW_some] <;> rfl) | (simp [*, errW_none, errW_some] <;> rfl), by repeat (first | (with_reducible first | exact HB.out | apply below_alloc | apply pw_below_drewN | apply below_drew1) | exact HB.out)⟩
  · rw [if_neg c3] at H
    have c3b0 : decide (30 < (l0.length : Int)) = false := decide_eq_false c3
    have c3b1 : decide (30 < l0.length) = false := decide_eq_false (by omega)
    clear c3
    have H' := Aside0.mk H
    clear H
    go_enter Try.func3, Try.ntmps3
    go_wp2
    go_loopg [5] k (fun kq v5 w' => ∃ (x5_1 : Int), v5 = .int .i64 x5_1 ∧ Aside0 (garlandlaw08_BagFirst.l0 kq l0 a1 x5_1 = some r) ∧ Aside0 (kq ≤ k) ∧ Aside0 (Kd.V k26 26 w' w.heap.size (fun k_ => (P0_ k_ ∨ w.heap.size ≤ k_)) (.slice A0 l0.length c0) l0) ∧ Aside0 (Below w.heap.size w w'))
    case atStart => exact ⟨(0), (by first | rfl | (simp; done) | (simp [*]; done)), H', ⟨Nat.le_refl _⟩, ⟨by (with_reducible repeat (first | apply Kd.V_alloc | apply Kd.V_drewN | apply Kd.V_drew)); exact HO0.out⟩, ⟨by repeat (first | (with_reducible first | exact HB.out | apply below_alloc | apply pw_below_drewN | apply below_drew1) | exact HB.out)⟩⟩
    case round =>
      clear H'
      try clear p2
      try clear c3
      try clear c3b0
      try clear c3b1
      obtain ⟨x5_1, rfl, HA, HK1, HO_0, HB⟩ := hrel
      cases gk with
      | zero => exact absurd HA.out (by simp [garlandlaw08_BagFirst.l0])
      | succ k1 =>
        have H := HA.out
        clear HA
        simp only [garlandlaw08_BagFirst.l0] at H
        by_cases c6 : x5_1 < (l0.length : Int)
        · rw [if_pos c6] at H
          have c6b0 : decide (x5_1 < (l0.length : Int)) = true := decide_eq_true c6
          clear c6
          by_cases c7 : 0 ≤ x5_1
          · rw [if_pos c7] at H
            have c7b0 : decide (0 ≤ x5_1) = true := decide_eq_true c7
            clear c7
            by_cases c8 : (((rd_T26 l0 x5_1).f1).length : Int) > 120
            · rw [if_pos c8] at H
              have c8b0 : decide (120 < (((rd_T26 l0 x5_1).f1).length : Int)) = true := decide_eq_true c8
              have c8b1 : decide (120 < ((rd_T26 l0 x5_1).f1).length) = true := decide_eq_true (by omega)
              clear c8
              replace H := Option.bind_eq_some_iff.mp H
              obtain ⟨t184, A90, H⟩ := H
              replace H : (some t184) = some r := H
              have A9 := Aside0.mk A90
              clear A90
              obtain rfl := Option.some.inj H
              have p183 : 0 ≤ (x5_1 : Int) := of_decide_eq_true (by first | (with_reducible assumption) | assumption)
              have q183 : x5_1 < (l0.length : Int) := of_decide_eq_true (by first | (with_reducible assumption) | assumption)
              obtain ⟨ad183, A183_1, c183_1, e183, hx183_0, hx183_1, hx183_2, hl183_1, hi183_1⟩ := at_T26 (Kd.V_reads' HO_0.out).2.2 x5_1 p183 q183
              cases e183
              obtain ⟨ce183, hce183, hMe183, hcc183⟩ := Kd.V_get HO_0.out z26 x5_1 p183 (by first | exact q183 | exact of_decide_eq_true (by first | (with_reducible assumption) | assumption) | (have e_ := (Kd.V_reads' HO_0.out).1; omega))
              obtain ⟨ua183_1, uc183_1, rfl, ul183_1, ge183_1⟩ := k26_openF hMe183
              have hv183_1 := hcc183 1 _ rfl
              rw [add_field _ _ 1 (by omega)] at hv183_1
              replace hv183_1 := Option.some.inj (hv183_1.symm.trans hx183_1)
              injection hv183_1 with hva_ hvn_ hvc_
              rw [hva_] at ge183_1
              rw [hvc_] at ul183_1
              have HL183_1 := Aside0.mk (show Kd.V (Kd.int .u8) 5 _ w.heap.size _ _ ((rd_T26 l0 x5_1).f1) from Kd.V_mk ul183_1 ge183_1)
              clear hva_ hvn_ hvc_ ge183_1 ul183_1
              clear hcc183 hce183
              have HR183_1 := Aside0.mk hi183_1
              have HC183_1 := Aside0.mk hl183_1
              clear hi183_1 hl183_1
              replace p183 := eq_true p183
              replace q183 := eq_true q183
              go_wp2_with (first | ((with_reducible refine gate_callee (f := 6) rfl ?_); refine goesL_ (some 32) rfl rfl Try.func6 (by kernel_rfl) rfl #[] rfl (by (try simp only [List.map_toArray, List.map_cons, List.map_nil]); first | done | rfl | (simp only [List.length_drop, List.length_take]; rfl)) ?_; (with_reducible refine (garlandlaw08_wakes.calls k1  t184 _ A9.out).mono ?_); rintro e w10 ⟨rfl, hb⟩; refine ⟨_, rfl, ?_⟩; have n0_ := Aside0.mk (Kd.V_below (by (with_reducible repeat (first | apply Kd.V_alloc | apply Kd.V_drewN | apply Kd.V_drew)); exact HO_0.out) hb); have n1_ := Aside0.mk (Kd.V_below (by (with_reducible repeat (first | apply Kd.V_alloc | apply Kd.V_drewN | apply Kd.V_drew)); exact HL183_1.out) hb); have n2_ := Aside0.mk (Kd.C_below (by repeat (first | (with_reducible exact HR183_1.out) | (with_reducible refine Kd.C_alloc ?_ _) | (with_reducible refine Kd.C_drewN ?_ _) | (with_reducible refine Kd.C_drew ?_) | exact HR183_1.out)) hb); have n3_ := Aside0.mk (below_step (by repeat (first | (with_reducible first | exact HB.out | apply below_alloc | apply pw_below_drewN | apply below_drew1) | exact HB.out)) hb); clear HO_0; clear HL183_1; clear HR183_1; clear HB; have HO_0 := n0_; have HL183_1 := n1_; have HR183_1 := n2_; have HB := n3_; clear n0_ n1_ n2_ n3_; (try clear hb); (try clear hb2); (try clear hk); (try clear hi)))
              go_ret
              exact ⟨by first | rfl | (simp [errW_none, errW_some] <;> rfl) | (simp [*, errW_none, errW_some] <;> rfl), by repeat (first | (with_reducible first | exact HB.out | apply below_alloc | apply pw_below_drewN | apply below_drew1) | exact HB.out)⟩
            · rw [if_neg c8] at H
              have c8b0 : decide (120 < (((rd_T26 l0 x5_1).f1).length : Int)) = false := decide_eq_false c8
              have c8b1 : decide (120 < ((rd_T26 l0 x5_1).f1).length) = false := decide_eq_false (by omega)
              clear c8
              have H' := Aside0.mk H
              clear H
              have p183 : 0 ≤ (x5_1 : Int) := of_decide_eq_true (by first | (with_reducible assumption) | assumption)
              have q183 : x5_1 < (l0.length : Int) := of_decide_eq_true (by first | (with_reducible assumption) | assumption)
              obtain ⟨ad183, A183_1, c183_1, e183, hx183_0, hx183_1, hx183_2, hl183_1, hi183_1⟩ := at_T26 (Kd.V_reads' HO_0.out).2.2 x5_1 p183 q183
              cases e183
              obtain ⟨ce183, hce183, hMe183, hcc183⟩ := Kd.V_get HO_0.out z26 x5_1 p183 (by first | exact q183 | exact of_decide_eq_true (by first | (with_reducible assumption) | assumption) | (have e_ := (Kd.V_reads' HO_0.out).1; omega))
              obtain ⟨ua183_1, uc183_1, rfl, ul183_1, ge183_1⟩ := k26_openF hMe183
              have hv183_1 := hcc183 1 _ rfl
              rw [add_field _ _ 1 (by omega)] at hv183_1
              replace hv183_1 := Option.some.inj (hv183_1.symm.trans hx183_1)
              injection hv183_1 with hva_ hvn_ hvc_
              rw [hva_] at ge183_1
              rw [hvc_] at ul183_1
              have HL183_1 := Aside0.mk (show Kd.V (Kd.int .u8) 5 _ w.heap.size _ _ ((rd_T26 l0 x5_1).f1) from Kd.V_mk ul183_1 ge183_1)
              clear hva_ hvn_ hvc_ ge183_1 ul183_1
              clear hcc183 hce183
              have HR183_1 := Aside0.mk hi183_1
              have HC183_1 := Aside0.mk hl183_1
              clear hi183_1 hl183_1
              replace p183 := eq_true p183
              replace q183 := eq_true q183
              go_wp2
              go_roundg k1
              case measure => have := HK1.out; omega
              case rel => exact ⟨(wrap64 (x5_1 + 1)), (by first | rfl | (simp; done) | (simp [*]; done)), H', ⟨by have := HK1.out; omega⟩, ⟨by (with_reducible repeat (first | apply Kd.V_alloc | apply Kd.V_drewN | apply Kd.V_drew)); exact HO_0.out⟩, ⟨by repeat (first | (with_reducible first | exact HB.out | apply below_alloc | apply pw_below_drewN | apply below_drew1) | exact HB.out)⟩⟩
          · rw [if_neg c7] at H
            exact absurd H (by simp)
        · rw [if_neg c6] at H
          have c6b0 : decide (x5_1 < (l0.length : Int)) = false := decide_eq_false c6
          clear c6
          replace H := Option.bind_eq_some_iff.mp H
          obtain ⟨⟨t185, t188⟩, A110, H⟩ := H
          replace H : ((garlandref08_Grams.f k1 t185 l0).bind fun t190 => (if t190 = true then (if (l0.length : Int) > 0 then (if (l0.length : Int) = 0 then (none) else ((bag_Take.f t185 t188 (Int.tmod (wrap64 ((Int.tmod a1 (l0.length : Int)) + (l0.length : Int))) (l0.length : Int))).bind fun bt191 => ((some (([] : List (S26)) : List (S26))).bind fun y203 => (if 0 ≤ (Int.tmod (wrap64 ((Int.tmod a1 (l0.length : Int)) + (l0.length : Int))) (l0.length : Int)) then (if (Int.tmod (wrap64 ((Int.tmod a1 (l0.length : Int)) + (l0.length : Int))) (l0.length : Int)) ≤ (l0.length : Int) then ((some (l0.take ((Int.tmod (wrap64 ((Int.tmod a1 (l0.length : Int)) + (l0.length : Int))) (l0.length : Int)) : Int).toNat : List (S26))).bind fun y206 => (if y203.length + y206.length < 3518437208883 then ((some (y203 ++ y206 : List (S26))).bind fun y211 => (if 0 ≤ (wrap64 ((Int.tmod (wrap64 ((Int.tmod a1 (l0.length : Int)) + (l0.length : Int))) (l0.length : Int)) + 1)) then (if (wrap64 ((Int.tmod (wrap64 ((Int.tmod a1 (l0.length : Int)) + (l0.length : Int))) (l0.length : Int)) + 1)) ≤ (l0.length : Int) then ((some (l0.drop ((wrap64 ((Int.tmod (wrap64 ((Int.tmod a1 (l0.length : Int)) + (l0.length : Int))) (l0.length : Int)) + 1)) : Int).toNat : List (S26))).bind fun y214 => (if y211.length + y214.length < 3518437208883 then (if bt191.2.2.2.2.2 = true then (if (Int.tmod (wrap64 ((Int.tmod a1 (l0.length : Int)) + (l0.length : Int))) (l0.length : Int)) < (l0.length : Int) then ((garlandref08_Gram.f bt191.2.2.1 bt191.2.2.2.1 bt191.2.2.2.2.1 ((rd_T26 l0 (Int.tmod (wrap64 ((Int.tmod a1 (l0.length : Int)) + (l0.length : Int))) (l0.length : Int))).f0) ((rd_T26 l0 (Int.tmod (wrap64 ((Int.tmod a1 (l0.length : Int)) + (l0.length : Int))) (l0.length : Int))).f1) ((rd_T26 l0 (Int.tmod (wrap64 ((Int.tmod a1 (l0.length : Int)) + (l0.length : Int))) (l0.length : Int))).f2)).bind fun t223 => (if t223 = true then ((garlandref08_Grams.f k1 bt191.1 (y211 ++ y214)).bind fun t224 => (if t224 = true then (garlandlaw08_BagFirst.j1 k1 l0 t185 t188) else (none))) else (none))) else (none)) else (none)) else (none))) else (none)) else (none))) else (none))) else (none)) else (none))))) else (garlandlaw08_BagFirst.j1 k1 l0 t185 t188)) else (none))) = some r := H
          have A11 := Aside0.mk A110
          clear A110
          replace H := Option.bind_eq_some_iff.mp H
          obtain ⟨t190, A120, H⟩ := H
          replace H : (if t190 = true then (if (l0.length : Int) > 0 then (if (l0.length : Int) = 0 then (none) else ((bag_Take.f t185 t188 (Int.tmod (wrap64 ((Int.tmod a1 (l0.length : Int)) + (l0.length : Int))) (l0.length : Int))).bind fun bt191 => ((some (([] : List (S26)) : List (S26))).bind fun y203 => (if 0 ≤ (Int.tmod (wrap64 ((Int.tmod a1 (l0.length : Int)) + (l0.length : Int))) (l0.length : Int)) then (if (Int.tmod (wrap64 ((Int.tmod a1 (l0.length : Int)) + (l0.length : Int))) (l0.length : Int)) ≤ (l0.length : Int) then ((some (l0.take ((Int.tmod (wrap64 ((Int.tmod a1 (l0.length : Int)) + (l0.length : Int))) (l0.length : Int)) : Int).toNat : List (S26))).bind fun y206 => (if y203.length + y206.length < 3518437208883 then ((some (y203 ++ y206 : List (S26))).bind fun y211 => (if 0 ≤ (wrap64 ((Int.tmod (wrap64 ((Int.tmod a1 (l0.length : Int)) + (l0.length : Int))) (l0.length : Int)) + 1)) then (if (wrap64 ((Int.tmod (wrap64 ((Int.tmod a1 (l0.length : Int)) + (l0.length : Int))) (l0.length : Int)) + 1)) ≤ (l0.length : Int) then ((some (l0.drop ((wrap64 ((Int.tmod (wrap64 ((Int.tmod a1 (l0.length : Int)) + (l0.length : Int))) (l0.length : Int)) + 1)) : Int).toNat : List (S26))).bind fun y214 => (if y211.length + y214.length < 3518437208883 then (if bt191.2.2.2.2.2 = true then (if (Int.tmod (wrap64 ((Int.tmod a1 (l0.length : Int)) + (l0.length : Int))) (l0.length : Int)) < (l0.length : Int) then ((garlandref08_Gram.f bt191.2.2.1 bt191.2.2.2.1 bt191.2.2.2.2.1 ((rd_T26 l0 (Int.tmod (wrap64 ((Int.tmod a1 (l0.length : Int)) + (l0.length : Int))) (l0.length : Int))).f0) ((rd_T26 l0 (Int.tmod (wrap64 ((Int.tmod a1 (l0.length : Int)) + (l0.length : Int))) (l0.length : Int))).f1) ((rd_T26 l0 (Int.tmod (wrap64 ((Int.tmod a1 (l0.length : Int)) + (l0.length : Int))) (l0.length : Int))).f2)).bind fun t223 => (if t223 = true then ((garlandref08_Grams.f k1 bt191.1 (y211 ++ y214)).bind fun t224 => (if t224 = true then (garlandlaw08_BagFirst.j1 k1 l0 t185 t188) else (none))) else (none))) else (none)) else (none)) else (none))) else (none)) else (none))) else (none))) else (none)) else (none))))) else (garlandlaw08_BagFirst.j1 k1 l0 t185 t188)) else (none)) = some r := H
          have A12 := Aside0.mk A120
          clear A120
          by_cases c13 : t190 = true
          · subst c13
            have H1 : (if (l0.length : Int) > 0 then (if (l0.length : Int) = 0 then (none) else ((bag_Take.f t185 t188 (Int.tmod (wrap64 ((Int.tmod a1 (l0.length : Int)) + (l0.length : Int))) (l0.length : Int))).bind fun bt191 => ((some (([] : List (S26)) : List (S26))).bind fun y203 => (if 0 ≤ (Int.tmod (wrap64 ((Int.tmod a1 (l0.length : Int)) + (l0.length : Int))) (l0.length : Int)) then (if (Int.tmod (wrap64 ((Int.tmod a1 (l0.length : Int)) + (l0.length : Int))) (l0.length : Int)) ≤ (l0.length : Int) then ((some (l0.take ((Int.tmod (wrap64 ((Int.tmod a1 (l0.length : Int)) + (l0.length : Int))) (l0.length : Int)) : Int).toNat : List (S26))).bind fun y206 => (if y203.length + y206.length < 3518437208883 then ((some (y203 ++ y206 : List (S26))).bind fun y211 => (if 0 ≤ (wrap64 ((Int.tmod (wrap64 ((Int.tmod a1 (l0.length : Int)) + (l0.length : Int))) (l0.length : Int)) + 1)) then (if (wrap64 ((Int.tmod (wrap64 ((Int.tmod a1 (l0.length : Int)) + (l0.length : Int))) (l0.length : Int)) + 1)) ≤ (l0.length : Int) then ((some (l0.drop ((wrap64 ((Int.tmod (wrap64 ((Int.tmod a1 (l0.length : Int)) + (l0.length : Int))) (l0.length : Int)) + 1)) : Int).toNat : List (S26))).bind fun y214 => (if y211.length + y214.length < 3518437208883 then (if bt191.2.2.2.2.2 = true then (if (Int.tmod (wrap64 ((Int.tmod a1 (l0.length : Int)) + (l0.length : Int))) (l0.length : Int)) < (l0.length : Int) then ((garlandref08_Gram.f bt191.2.2.1 bt191.2.2.2.1 bt191.2.2.2.2.1 ((rd_T26 l0 (Int.tmod (wrap64 ((Int.tmod a1 (l0.length : Int)) + (l0.length : Int))) (l0.length : Int))).f0) ((rd_T26 l0 (Int.tmod (wrap64 ((Int.tmod a1 (l0.length : Int)) + (l0.length : Int))) (l0.length : Int))).f1) ((rd_T26 l0 (Int.tmod (wrap64 ((Int.tmod a1 (l0.length : Int)) + (l0.length : Int))) (l0.length : Int))).f2)).bind fun t223 => (if t223 = true then ((garlandref08_Grams.f k1 bt191.1 (y211 ++ y214)).bind fun t224 => (if t224 = true then (garlandlaw08_BagFirst.j1 k1 l0 t185 t188) else (none))) else (none))) else (none)) else (none)) else (none))) else (none)) else (none))) else (none))) else (none)) else (none))))) else (garlandlaw08_BagFirst.j1 k1 l0 t185 t188)) = some r := by rw [if_pos rfl] at H; exact H
            clear H
            have H := H1
            clear H1
            have HC14 := Aside0.mk H
            clear H
            go_upto_if 43 with (first | ((with_reducible refine gate_callee (f := 7) rfl ?_); refine goesL_ (some 35) rfl rfl Try.func7 (by kernel_rfl) rfl #[.agg #[.slice none 0 0, .int .i64 0], .slice A0 l0.length c0] rfl (by (try simp only [List.map_toArray, List.map_cons, List.map_nil]); first | done | rfl | (simp only [List.length_drop, List.length_take]; rfl)) ?_; (refine (bag_Send.calls _ _ ([] : List (S26)) 0 _ _ l0 t185 t188 _ ?side1 ?side2 ?side3 ?side4 A11.out).mono ?_); (case side1 => exact Kd.C_nil _ _); (case side2 => exact Nat.le_refl _); (case side3 => repeat (first | exact (Kd.V_reads' HO_0.out).2.2 | (with_reducible refine Kd.C_alloc ?_ _) | (with_reducible refine Kd.C_drewN ?_ _) | (with_reducible refine Kd.C_drew ?_))); (case side4 => exact (Kd.V_reads' HO_0.out).2.1); rintro e w15 ⟨v186, rfl, ho0, hb⟩; refine ⟨_, rfl, ?_⟩; have n0_ := Aside0.mk (Kd.V_elder' (by (with_reducible repeat (first | apply Kd.V_alloc | apply Kd.V_drewN | apply Kd.V_drew)); exact HO_0.out) (Kd.S_base ho0) hb); have n1_ := Aside0.mk (Kd.N_lower (Kd.N_mono (ok' := fun k_ => (P0_ k_ ∨ w.heap.size ≤ k_)) (Kd.S_N (Kd.S_bound ho0)) (fun k_ hk_ => (.inr (Nat.le_trans (below_size (by repeat (first | (with_reducible first | exact HB.out | apply below_alloc | apply pw_below_drewN | apply below_drew1) | exact HB.out))) hk_.2.1)))) (below_size (by repeat (first | (with_reducible first | exact HB.out | apply below_alloc | apply pw_below_drewN | apply below_drew1) | exact HB.out)))); have n2_ := Aside0.mk (below_step (by repeat (first | (with_reducible first | exact HB.out | apply below_alloc | apply pw_below_drewN | apply below_drew1) | exact HB.out)) hb); clear HO_0; clear HB; have HO_0 := n0_; have HO187 := n1_; have HB := n2_; clear n0_ n1_ n2_; (try clear hb); (try clear hb2); (try clear hk); (try clear hi); (try clear ho0)) | ((with_reducible refine gate_dst (N := 6) rfl ?_); refine box_event ?hg (N := 6) ?hd (cs := #[.slice none 0 0, .int .i64 0]) (t := 28) ?hr ?_; (case hd => rfl); (case hg => rfl); (case hr => first | (go_simp; done) | (go_simp; rfl)); intro gb189 hg w16 hbox hb; have n0_ := Aside0.mk (Kd.V_below (Kd.V_elderB (by (with_reducible repeat (first | apply Kd.V_alloc | apply Kd.V_drewN | apply Kd.V_drew)); exact HO_0.out) gb189 (Nat.le_of_eq hg.symm)) hb); have n1_ := Aside0.mk (Kd.N_below (Kd.N_elderB (by (with_reducible repeat (first | apply Kd.N_alloc | apply Kd.N_drewN | apply Kd.N_drew)); exact HO187.out) gb189 (Nat.le_of_eq hg.symm)) hb); have n2_ := Aside0.mk (below_step (by repeat (first | (with_reducible first | exact HB.out | apply below_alloc | apply pw_below_drewN | apply below_drew1) | exact HB.out)) hb); have n3_ := Aside0.mk (hbox); have n4_ := Aside0.mk ((by rw [hg]; exact (below_size (by repeat (first | (with_reducible first | exact HB.out | apply below_alloc | apply pw_below_drewN | apply below_drew1) | exact HB.out))) : w.heap.size ≤ gb189)); have n5_ := Aside0.mk ((by rw [hg]; exact (below_size (by repeat (first | (with_reducible first | exact HB.out | apply below_alloc | apply pw_below_drewN | apply below_drew1) | exact HB.out))) : w.heap.size ≤ gb189)); clear HO_0; clear HO187; clear HB; have HO_0 := n0_; have HO187 := n1_; have HB := n2_; have BK189 := n3_; have GW189 := n4_; have GE189 := n5_; clear n0_ n1_ n2_ n3_ n4_ n5_; clear hb hbox hg; obtain ⟨Ao17, co17, eo17⟩ := Kd.N_slice HO187.out; subst eo17; have hcz18_0 : w16.cell? ⟨gb189, 0, none⟩ = some (.slice none 0 0) := (blk_cell BK189.out 0).trans rfl; have hcz18_1 : w16.cell? ⟨gb189, 1, none⟩ = some (.int .i64 0) := (blk_cell BK189.out 1).trans rfl; have hfz18_0 := blk_frozen BK189.out 0; have hfz18_1 := blk_frozen BK189.out 1) | ((with_reducible refine gate_callee (f := 8) rfl ?_); refine goesL_ (some 39) rfl rfl Try.func8 (by kernel_rfl) rfl #[.slice Ao17 t185.length co17, .slice A0 l0.length c0] rfl (by (try simp only [List.map_toArray, List.map_cons, List.map_nil]); first | done | rfl | (simp only [List.length_drop, List.length_take]; rfl)) ?_; (with_reducible refine (garlandref08_Grams.calls k1 _ _ t185 _ _ l0 true _ ?side1 ?side2 ?side3 ?side4 A12.out).mono ?_); (case side1 => refine (Kd.N_reads' (e := 26) (base := w.heap.size) (ok := fun k_ => ((P0_ k_ ∨ w.heap.size ≤ k_) ∧ k_ ≠ gb189)) (n := t185.length) (c := co17) ?_).2.2; exact (by (with_reducible repeat (first | apply Kd.N_alloc | apply Kd.N_drewN | apply Kd.N_drew)); exact (Kd.N_mono (Kd.N_far (p := ⟨gb189, 1, none⟩) (Kd.N_far (p := ⟨gb189, 0, none⟩) (Kd.N_mono HO187.out (fun k_ hk => (⟨hk, hk.2⟩ : _ ∧ k_ ≠ gb189))) (fun _ hk => hk.2) (.slice Ao17 t185.length co17)) (fun _ hk => hk.2) (.int .i64 t188)) (fun _ h_ => h_.1)))); (case side2 => exact (Kd.N_reads' HO187.out).2.1); (case side3 => refine (Kd.V_reads' (e := 26) (base := w.heap.size) (ok := fun k_ => (((P0_ k_ ∨ w.heap.size ≤ k_) ∧ some k_ ≠ (.slice Ao17 t185.length co17 : Value).ownBlock) ∧ k_ ≠ gb189)) (n := l0.length) (c := c0) ?_).2.2; exact (by (with_reducible repeat (first | apply Kd.V_alloc | apply Kd.V_drewN | apply Kd.V_drew)); exact (Kd.V_mono (Kd.V_far (p := ⟨gb189, 1, none⟩) (Kd.V_far (p := ⟨gb189, 0, none⟩) (Kd.V_mono HO_0.out (fun k_ hk => (⟨hk, hk.2⟩ : _ ∧ k_ ≠ gb189))) (fun _ hk => hk.2) (.slice Ao17 t185.length co17)) (fun _ hk => hk.2) (.int .i64 t188)) (fun _ h_ => h_.1)))); (case side4 => exact (Kd.V_reads' HO_0.out).2.1); rintro e w19 ⟨rfl, hb⟩; refine ⟨_, rfl, ?_⟩; have n0_ := Aside0.mk (Kd.V_below (by (with_reducible repeat (first | apply Kd.V_alloc | apply Kd.V_drewN | apply Kd.V_drew)); exact (Kd.V_mono (Kd.V_far (p := ⟨gb189, 1, none⟩) (Kd.V_far (p := ⟨gb189, 0, none⟩) (Kd.V_mono HO_0.out (fun k_ hk => (⟨hk, hk.2⟩ : _ ∧ k_ ≠ gb189))) (fun _ hk => hk.2) (.slice Ao17 t185.length co17)) (fun _ hk => hk.2) (.int .i64 t188)) (fun _ h_ => h_.1))) hb); have n1_ := Aside0.mk (Kd.N_below (by (with_reducible repeat (first | apply Kd.N_alloc | apply Kd.N_drewN | apply Kd.N_drew)); exact (Kd.N_mono (Kd.N_far (p := ⟨gb189, 1, none⟩) (Kd.N_far (p := ⟨gb189, 0, none⟩) (Kd.N_mono HO187.out (fun k_ hk => (⟨hk, hk.2⟩ : _ ∧ k_ ≠ gb189))) (fun _ hk => hk.2) (.slice Ao17 t185.length co17)) (fun _ hk => hk.2) (.int .i64 t188)) (fun _ h_ => h_.1))) hb); have n2_ := Aside0.mk (blk_below (g := gb189) (o := .cells #[.slice Ao17 t185.length co17, .int .i64 t188] 28 (0, 0)) (by (with_reducible repeat (first | refine blk_drewN ?_ _ | refine blk_drew ?_ | refine blk_alloc ?_ _)); refine blk_put (cs := #[.slice Ao17 t185.length co17, .int .i64 0]) ?_ 1 _ rfl; (with_reducible repeat (first | refine blk_drewN ?_ _ | refine blk_drew ?_ | refine blk_alloc ?_ _)); refine blk_put (cs := #[.slice none 0 0, .int .i64 0]) ?_ 0 _ rfl; (with_reducible repeat (first | refine blk_drewN ?_ _ | refine blk_drew ?_ | refine blk_alloc ?_ _)); exact BK189.out) hb); have n3_ := Aside0.mk (below_step (by repeat (first | (with_reducible first | exact HB.out | apply below_alloc | apply pw_below_drewN | apply below_drew1 | refine below_set ?_ GE189.out) | exact HB.out)) hb); clear HO_0; clear HO187; clear BK189; clear HB; have HO_0 := n0_; have HO187 := n1_; have BK189 := n2_; have HB := n3_; clear n0_ n1_ n2_ n3_; (try clear hb); (try clear hb2); (try clear hk); (try clear hi)))
            (try simp only [Act.put, List.setIfInBounds_toArray, List.set_cons_zero, List.set_cons_succ])
            go_cut [] (fun wc => ∃ (kq : Nat), Aside0 (garlandlaw08_BagFirst.j1 kq l0 t185 t188 = some r) ∧ Aside0 (kq ≤ k1) ∧ Aside0 (Kd.V k26 26 wc w.heap.size (fun k_ => (P0_ k_ ∨ w.heap.size ≤ k_) ∧ some k_ ≠ ((.slice Ao17 t185.length co17) : Value).ownBlock ∧ k_ ≠ gb189) (.slice A0 l0.length c0) l0) ∧ Aside0 (Kd.N k26 26 wc w.heap.size (fun k_ => (P0_ k_ ∨ w.heap.size ≤ k_) ∧ k_ ≠ gb189) (.slice Ao17 t185.length co17) t185) ∧ Aside0 (wc.heap[gb189]? = some (.cells #[(.slice Ao17 t185.length co17), .int .i64 t188] 28 (0, 0))) ∧ Aside0 (Below w.heap.size w wc))
            case first =>
              have H := HC14.out
              clear HC14
              by_cases c20 : (l0.length : Int) > 0
              · rw [if_pos c20] at H
                have c20b0 : decide (0 < (l0.length : Int)) = true := decide_eq_true c20
                have c20b1 : decide (0 < l0.length) = true := decide_eq_true (by omega)
                clear c20
                (first | rw [c20b0] | (simp only [i64_w, i32_w]; rw [c20b0]) | skip)
                by_cases c21 : (l0.length : Int) = 0
                · rw [if_pos c21] at H
                  exact absurd H (by simp)
                · rw [if_neg c21] at H
                  have c21b0 : ((l0.length : Int) == 0) = false := beq_eq_false_iff_ne.mpr c21
                  have c21b1 : ((l0.length : Int) != 0) = true := bne_iff_ne.mpr c21
                  have c21b2 : ¬ (l0 = []) := fun h_ => c21 (by rw [h_]; rfl)
                  replace H := Option.bind_eq_some_iff.mp H
                  obtain ⟨⟨t191, t194, t195, t196, t199, t200⟩, A220, H⟩ := H
                  replace H : ((some (([] : List (S26)) : List (S26))).bind fun y203 => (if 0 ≤ (Int.tmod (wrap64 ((Int.tmod a1 (l0.length : Int)) + (l0.length : Int))) (l0.length : Int)) then (if (Int.tmod (wrap64 ((Int.tmod a1 (l0.length : Int)) + (l0.length : Int))) (l0.length : Int)) ≤ (l0.length : Int) then ((some (l0.take ((Int.tmod (wrap64 ((Int.tmod a1 (l0.length : Int)) + (l0.length : Int))) (l0.length : Int)) : Int).toNat : List (S26))).bind fun y206 => (if y203.length + y206.length < 3518437208883 then ((some (y203 ++ y206 : List (S26))).bind fun y211 => (if 0 ≤ (wrap64 ((Int.tmod (wrap64 ((Int.tmod a1 (l0.length : Int)) + (l0.length : Int))) (l0.length : Int)) + 1)) then (if (wrap64 ((Int.tmod (wrap64 ((Int.tmod a1 (l0.length : Int)) + (l0.length : Int))) (l0.length : Int)) + 1)) ≤ (l0.length : Int) then ((some (l0.drop ((wrap64 ((Int.tmod (wrap64 ((Int.tmod a1 (l0.length : Int)) + (l0.length : Int))) (l0.length : Int)) + 1)) : Int).toNat : List (S26))).bind fun y214 => (if y211.length + y214.length < 3518437208883 then (if t200 = true then (if (Int.tmod (wrap64 ((Int.tmod a1 (l0.length : Int)) + (l0.length : Int))) (l0.length : Int)) < (l0.length : Int) then ((garlandref08_Gram.f t195 t196 t199 ((rd_T26 l0 (Int.tmod (wrap64 ((Int.tmod a1 (l0.length : Int)) + (l0.length : Int))) (l0.length : Int))).f0) ((rd_T26 l0 (Int.tmod (wrap64 ((Int.tmod a1 (l0.length : Int)) + (l0.length : Int))) (l0.length : Int))).f1) ((rd_T26 l0 (Int.tmod (wrap64 ((Int.tmod a1 (l0.length : Int)) + (l0.length : Int))) (l0.length : Int))).f2)).bind fun t223 => (if t223 = true then ((garlandref08_Grams.f k1 t191 (y211 ++ y214)).bind fun t224 => (if t224 = true then (garlandlaw08_BagFirst.j1 k1 l0 t185 t188) else (none))) else (none))) else (none)) else (none)) else (none))) else (none)) else (none))) else (none))) else (none)) else (none))) = some r := H
                  have A22 := Aside0.mk A220
                  clear A220
                  obtain ⟨y203, hy203⟩ : ∃ y_ : List (S26), y_ = (([] : List (S26))) := ⟨_, rfl⟩
                  replace H : (if 0 ≤ (Int.tmod (wrap64 ((Int.tmod a1 (l0.length : Int)) + (l0.length : Int))) (l0.length : Int)) then (if (Int.tmod (wrap64 ((Int.tmod a1 (l0.length : Int)) + (l0.length : Int))) (l0.length : Int)) ≤ (l0.length : Int) then ((some (l0.take ((Int.tmod (wrap64 ((Int.tmod a1 (l0.length : Int)) + (l0.length : Int))) (l0.length : Int)) : Int).toNat : List (S26))).bind fun y206 => (if y203.length + y206.length < 3518437208883 then ((some (y203 ++ y206 : List (S26))).bind fun y211 => (if 0 ≤ (wrap64 ((Int.tmod (wrap64 ((Int.tmod a1 (l0.length : Int)) + (l0.length : Int))) (l0.length : Int)) + 1)) then (if (wrap64 ((Int.tmod (wrap64 ((Int.tmod a1 (l0.length : Int)) + (l0.length : Int))) (l0.length : Int)) + 1)) ≤ (l0.length : Int) then ((some (l0.drop ((wrap64 ((Int.tmod (wrap64 ((Int.tmod a1 (l0.length : Int)) + (l0.length : Int))) (l0.length : Int)) + 1)) : Int).toNat : List (S26))).bind fun y214 => (if y211.length + y214.length < 3518437208883 then (if t200 = true then (if (Int.tmod (wrap64 ((Int.tmod a1 (l0.length : Int)) + (l0.length : Int))) (l0.length : Int)) < (l0.length : Int) then ((garlandref08_Gram.f t195 t196 t199 ((rd_T26 l0 (Int.tmod (wrap64 ((Int.tmod a1 (l0.length : Int)) + (l0.length : Int))) (l0.length : Int))).f0) ((rd_T26 l0 (Int.tmod (wrap64 ((Int.tmod a1 (l0.length : Int)) + (l0.length : Int))) (l0.length : Int))).f1) ((rd_T26 l0 (Int.tmod (wrap64 ((Int.tmod a1 (l0.length : Int)) + (l0.length : Int))) (l0.length : Int))).f2)).bind fun t223 => (if t223 = true then ((garlandref08_Grams.f k1 t191 (y211 ++ y214)).bind fun t224 => (if t224 = true then (garlandlaw08_BagFirst.j1 k1 l0 t185 t188) else (none))) else (none))) else (none)) else (none)) else (none))) else (none)) else (none))) else (none))) else (none)) else (none)) = some r := by first | (rw [hy203]; with_reducible exact H) | (have H2_ := (Option.bind_some _ _).symm.trans H; rw [hy203]; with_reducible exact H2_) | (have H2_ := (Option.bind_some _ _).symm.trans H; with_reducible exact H2_) | with_reducible exact H | (rw [hy203]; exact H) | exact H
                  have Ny203 := Aside0.mk hy203
                  clear hy203
                  obtain ⟨ji23, hji23⟩ : ∃ j_ : Int, (Int.tmod (wrap64 ((Int.tmod a1 (l0.length : Int)) + (l0.length : Int))) (l0.length : Int)) = j_ := ⟨_, rfl⟩
                  replace H : (if 0 ≤ (ji23) then (if (ji23) ≤ (l0.length : Int) then ((some (l0.take ((ji23) : Int).toNat : List (S26))).bind fun y206 => (if y203.length + y206.length < 3518437208883 then ((some (y203 ++ y206 : List (S26))).bind fun y211 => (if 0 ≤ (wrap64 ((ji23) + 1)) then (if (wrap64 ((ji23) + 1)) ≤ (l0.length : Int) then ((some (l0.drop ((wrap64 ((ji23) + 1)) : Int).toNat : List (S26))).bind fun y214 => (if y211.length + y214.length < 3518437208883 then (if t200 = true then (if (ji23) < (l0.length : Int) then ((garlandref08_Gram.f t195 t196 t199 ((rd_T26 l0 (ji23)).f0) ((rd_T26 l0 (ji23)).f1) ((rd_T26 l0 (ji23)).f2)).bind fun t223 => (if t223 = true then ((garlandref08_Grams.f k1 t191 (y211 ++ y214)).bind fun t224 => (if t224 = true then (garlandlaw08_BagFirst.j1 k1 l0 t185 t188) else (none))) else (none))) else (none)) else (none)) else (none))) else (none)) else (none))) else (none))) else (none)) else (none)) = some r := by first | (rw [hji23] at H; exact H) | (simp only [hji23] at H ⊢; exact H)
                  (try rw [hji23] at A22)
                  by_cases c24 : 0 ≤ (ji23)
                  · rw [if_pos c24] at H
                    have c24b0 := eq_true c24
                    have c24b1 : decide (0 ≤ (ji23)) = true := decide_eq_true c24
                    clear c24
                    by_cases c25 : (ji23) ≤ (l0.length : Int)
                    · rw [if_pos c25] at H
                      have c25b0 := eq_true c25
                      have c25b1 : decide ((ji23) ≤ (l0.length : Int)) = true := decide_eq_true c25
                      clear c25
                      obtain ⟨y206, hy206⟩ : ∃ y_ : List (S26), y_ = (l0.take ((ji23) : Int).toNat) := ⟨_, rfl⟩
                      replace H : (if y203.length + y206.length < 3518437208883 then ((some (y203 ++ y206 : List (S26))).bind fun y211 => (if 0 ≤ (wrap64 ((ji23) + 1)) then (if (wrap64 ((ji23) + 1)) ≤ (l0.length : Int) then ((some (l0.drop ((wrap64 ((ji23) + 1)) : Int).toNat : List (S26))).bind fun y214 => (if y211.length + y214.length < 3518437208883 then (if t200 = true then (if (ji23) < (l0.length : Int) then ((garlandref08_Gram.f t195 t196 t199 ((rd_T26 l0 (ji23)).f0) ((rd_T26 l0 (ji23)).f1) ((rd_T26 l0 (ji23)).f2)).bind fun t223 => (if t223 = true then ((garlandref08_Grams.f k1 t191 (y211 ++ y214)).bind fun t224 => (if t224 = true then (garlandlaw08_BagFirst.j1 k1 l0 t185 t188) else (none))) else (none))) else (none)) else (none)) else (none))) else (none)) else (none))) else (none)) = some r := by first | (rw [hy206]; with_reducible exact H) | (have H2_ := (Option.bind_some _ _).symm.trans H; rw [hy206]; with_reducible exact H2_) | (have H2_ := (Option.bind_some _ _).symm.trans H; with_reducible exact H2_) | with_reducible exact H | (rw [hy206]; exact H) | exact H
                      have Ny206 := Aside0.mk hy206
                      clear hy206
                      by_cases c26 : y203.length + y206.length < 3518437208883
                      · rw [if_pos c26] at H
                        have LMc26 := Aside0.mk c26
                        clear c26
                        obtain ⟨y211, hy211⟩ : ∃ y_ : List (S26), y_ = (y203 ++ y206) := ⟨_, rfl⟩
                        replace H : (if 0 ≤ (wrap64 ((ji23) + 1)) then (if (wrap64 ((ji23) + 1)) ≤ (l0.length : Int) then ((some (l0.drop ((wrap64 ((ji23) + 1)) : Int).toNat : List (S26))).bind fun y214 => (if y211.length + y214.length < 3518437208883 then (if t200 = true then (if (ji23) < (l0.length : Int) then ((garlandref08_Gram.f t195 t196 t199 ((rd_T26 l0 (ji23)).f0) ((rd_T26 l0 (ji23)).f1) ((rd_T26 l0 (ji23)).f2)).bind fun t223 => (if t223 = true then ((garlandref08_Grams.f k1 t191 (y211 ++ y214)).bind fun t224 => (if t224 = true then (garlandlaw08_BagFirst.j1 k1 l0 t185 t188) else (none))) else (none))) else (none)) else (none)) else (none))) else (none)) else (none)) = some r := by first | (rw [hy211]; with_reducible exact H) | (have H2_ := (Option.bind_some _ _).symm.trans H; rw [hy211]; with_reducible exact H2_) | (have H2_ := (Option.bind_some _ _).symm.trans H; with_reducible exact H2_) | with_reducible exact H | (rw [hy211]; exact H) | exact H
                        have Ny211 := Aside0.mk hy211
                        clear hy211
                        obtain ⟨ji27, hji27⟩ : ∃ j_ : Int, (wrap64 ((ji23) + 1)) = j_ := ⟨_, rfl⟩
                        replace H : (if 0 ≤ (ji27) then (if (ji27) ≤ (l0.length : Int) then ((some (l0.drop ((ji27) : Int).toNat : List (S26))).bind fun y214 => (if y211.length + y214.length < 3518437208883 then (if t200 = true then (if (ji23) < (l0.length : Int) then ((garlandref08_Gram.f t195 t196 t199 ((rd_T26 l0 (ji23)).f0) ((rd_T26 l0 (ji23)).f1) ((rd_T26 l0 (ji23)).f2)).bind fun t223 => (if t223 = true then ((garlandref08_Grams.f k1 t191 (y211 ++ y214)).bind fun t224 => (if t224 = true then (garlandlaw08_BagFirst.j1 k1 l0 t185 t188) else (none))) else (none))) else (none)) else (none)) else (none))) else (none)) else (none)) = some r := by first | (rw [hji27] at H; exact H) | (simp only [hji27] at H ⊢; exact H)
                        (try rw [hji27] at A22)
                        have hji27w : (IntKind.i64.wrap ((ji23) + 1)) = ji27 := (i64_w _).trans hji27
                        by_cases c28 : 0 ≤ (ji27)
                        · rw [if_pos c28] at H
                          have c28b0 := eq_true c28
                          have c28b1 : decide (0 ≤ (ji27)) = true := decide_eq_true c28
                          clear c28
                          by_cases c29 : (ji27) ≤ (l0.length : Int)
                          · rw [if_pos c29] at H
                            have c29b0 := eq_true c29
                            have c29b1 : decide ((ji27) ≤ (l0.length : Int)) = true := decide_eq_true c29
                            clear c29
                            obtain ⟨y214, hy214⟩ : ∃ y_ : List (S26), y_ = (l0.drop ((ji27) : Int).toNat) := ⟨_, rfl⟩
                            replace H : (if y211.length + y214.length < 3518437208883 then (if t200 = true then (if (ji23) < (l0.length : Int) then ((garlandref08_Gram.f t195 t196 t199 ((rd_T26 l0 (ji23)).f0) ((rd_T26 l0 (ji23)).f1) ((rd_T26 l0 (ji23)).f2)).bind fun t223 => (if t223 = true then ((garlandref08_Grams.f k1 t191 (y211 ++ y214)).bind fun t224 => (if t224 = true then (garlandlaw08_BagFirst.j1 k1 l0 t185 t188) else (none))) else (none))) else (none)) else (none)) else (none)) = some r := by first | (rw [hy214]; with_reducible exact H) | (have H2_ := (Option.bind_some _ _).symm.trans H; rw [hy214]; with_reducible exact H2_) | (have H2_ := (Option.bind_some _ _).symm.trans H; with_reducible exact H2_) | with_reducible exact H | (rw [hy214]; exact H) | exact H
                            have Ny214 := Aside0.mk hy214
                            clear hy214
                            by_cases c30 : y211.length + y214.length < 3518437208883
                            · rw [if_pos c30] at H
                              have LMc30 := Aside0.mk c30
                              clear c30
                              obtain ⟨y219, hy219⟩ : ∃ y_ : List (S26), y_ = (y211 ++ y214) := ⟨_, rfl⟩
                              replace H : (if t200 = true then (if (ji23) < (l0.length : Int) then ((garlandref08_Gram.f t195 t196 t199 ((rd_T26 l0 (ji23)).f0) ((rd_T26 l0 (ji23)).f1) ((rd_T26 l0 (ji23)).f2)).bind fun t223 => (if t223 = true then ((garlandref08_Grams.f k1 t191 y219).bind fun t224 => (if t224 = true then (garlandlaw08_BagFirst.j1 k1 l0 t185 t188) else (none))) else (none))) else (none)) else (none)) = some r := by first | (rw [hy219]; with_reducible exact H) | (have H2_ := (Option.bind_some _ _).symm.trans H; rw [hy219]; with_reducible exact H2_) | (have H2_ := (Option.bind_some _ _).symm.trans H; with_reducible exact H2_) | with_reducible exact H | (rw [hy219]; exact H) | exact H
                              have Ny219 := Aside0.mk hy219
                              clear hy219
                              by_cases c31 : t200 = true
                              · subst c31
                                have H1 : (if (ji23) < (l0.length : Int) then ((garlandref08_Gram.f t195 t196 t199 ((rd_T26 l0 (ji23)).f0) ((rd_T26 l0 (ji23)).f1) ((rd_T26 l0 (ji23)).f2)).bind fun t223 => (if t223 = true then ((garlandref08_Grams.f k1 t191 y219).bind fun t224 => (if t224 = true then (garlandlaw08_BagFirst.j1 k1 l0 t185 t188) else (none))) else (none))) else (none)) = some r := by rw [if_pos rfl] at H; exact H
                                clear H
                                have H := H1
                                clear H1
                                by_cases c32 : (ji23) < (l0.length : Int)
                                · rw [if_pos c32] at H
                                  have c32b0 : decide ((ji23) < (l0.length : Int)) = true := decide_eq_true c32
                                  clear c32
                                  replace H := Option.bind_eq_some_iff.mp H
                                  obtain ⟨t223, A330, H⟩ := H
                                  replace H : (if t223 = true then ((garlandref08_Grams.f k1 t191 y219).bind fun t224 => (if t224 = true then (garlandlaw08_BagFirst.j1 k1 l0 t185 t188) else (none))) else (none)) = some r := H
                                  have A33 := Aside0.mk A330
                                  clear A330
                                  by_cases c34 : t223 = true
                                  · subst c34
                                    have H1 : ((garlandref08_Grams.f k1 t191 y219).bind fun t224 => (if t224 = true then (garlandlaw08_BagFirst.j1 k1 l0 t185 t188) else (none))) = some r := by rw [if_pos rfl] at H; exact H
                                    clear H
                                    have H := H1
                                    clear H1
                                    replace H := Option.bind_eq_some_iff.mp H
                                    obtain ⟨t224, A350, H⟩ := H
                                    replace H : (if t224 = true then (garlandlaw08_BagFirst.j1 k1 l0 t185 t188) else (none)) = some r := H
                                    have A35 := Aside0.mk A350
                                    clear A350
                                    by_cases c36 : t224 = true
                                    · subst c36
                                      have H1 : (garlandlaw08_BagFirst.j1 k1 l0 t185 t188) = some r := by rw [if_pos rfl] at H; exact H
                                      clear H
                                      have H := H1
                                      clear H1
                                      have H' := Aside0.mk H
                                      clear H
                                      have hcz37_0 : w19.cell? ⟨gb189, 0, none⟩ = some (.slice Ao17 t185.length co17) := (blk_cell BK189.out 0).trans rfl
                                      have hcz37_1 : w19.cell? ⟨gb189, 1, none⟩ = some (.int .i64 t188) := (blk_cell BK189.out 1).trans rfl
                                      have hfz37_0 := blk_frozen BK189.out 0
                                      have hfz37_1 := blk_frozen BK189.out 1
                                      try go_wp2_with (first | ((with_reducible refine gate_callee (f := 9) rfl ?_); refine goesL_ (some 57) rfl rfl Try.func9 (by kernel_rfl) rfl #[.agg #[.slice Ao17 t185.length co17, .int .i64 t188], .int .i64 ji23] rfl (by (try simp only [List.map_toArray, List.map_cons, List.map_nil]); first | done | (simp only [hji23]; rfl) | rfl | (simp only [List.length_drop, List.length_take]; rfl)) ?_; (with_reducible refine (bag_Take.calls _ _ t185 t188 ji23 t191 t194 t195 t196 t199 true _ ?side1 ?side2 A22.out).mono ?_); (case side1 => repeat (first | exact (Kd.N_reads' HO187.out).2.2 | (with_reducible refine Kd.C_alloc ?_ _) | (with_reducible refine Kd.C_drewN ?_ _) | (with_reducible refine Kd.C_drew ?_))); (case side2 => exact (Kd.N_reads' HO187.out).2.1); rintro e w38 ⟨v192, v197, rfl, ho0, ho1, hb⟩; refine ⟨_, rfl, ?_⟩; have n0_ := Aside0.mk (Kd.V_mono (Kd.V_told (Kd.V_told (Kd.V_old (by (with_reducible repeat (first | apply Kd.V_alloc | apply Kd.V_drewN | apply Kd.V_drew)); exact HO_0.out) hb) (Kd.S_base ho0)) (Kd.R_base ho1)) (fun _ h_ => h_.1)); have n1_ := Aside0.mk (Kd.N_mono (Kd.N_told (Kd.N_told (Kd.N_old (by (with_reducible repeat (first | apply Kd.N_alloc | apply Kd.N_drewN | apply Kd.N_drew)); exact HO187.out) hb) (Kd.S_base ho0)) (Kd.R_base ho1)) (fun _ h_ => h_.1)); have n2_ := Aside0.mk (Kd.N_lower (Kd.N_mono (ok' := fun k_ => (P0_ k_ ∨ w.heap.size ≤ k_) ∧ some k_ ≠ (v197 : Value).ownBlock ∧ some k_ ≠ (.slice Ao17 t185.length co17 : Value).ownBlock ∧ k_ ≠ gb189) (Kd.S_N (Kd.S_bound ho0)) (fun k_ hk_ => ⟨(.inr (Nat.le_trans (below_size (by repeat (first | (with_reducible first | exact HB.out | apply below_alloc | apply pw_below_drewN | apply below_drew1 | refine below_set ?_ GE189.out) | exact HB.out))) hk_.2.1)), hk_.1, (Kd.fresh' (Kd.N_lt (by (with_reducible repeat (first | apply Kd.N_alloc | apply Kd.N_drewN | apply Kd.N_drew)); exact HO187.out)) k_ hk_.2.1), (Kd.freshB (g := gb189) (o := .cells #[.slice Ao17 t185.length co17, .int .i64 t188] 28 (0, 0)) (by (with_reducible repeat (first | refine blk_drewN ?_ _ | refine blk_drew ?_ | refine blk_alloc ?_ _)); exact BK189.out) k_ hk_.2.1)⟩)) (below_size (by repeat (first | (with_reducible first | exact HB.out | apply below_alloc | apply pw_below_drewN | apply below_drew1 | refine below_set ?_ GE189.out) | exact HB.out)))); have n3_ := Aside0.mk (Kd.R_lower (Kd.R_newM (M := fun k_ => (w.heap.size ≤ k_)) ho1 (below_size (by repeat (first | (with_reducible first | exact HB.out | apply below_alloc | apply pw_below_drewN | apply below_drew1 | refine below_set ?_ GE189.out) | exact HB.out))) (fun k_ h_ => h_)) (below_size (by repeat (first | (with_reducible first | exact HB.out | apply below_alloc | apply pw_below_drewN | apply below_drew1 | refine below_set ?_ GE189.out) | exact HB.out)))); have n4_ := Aside0.mk (blk_below (g := gb189) (o := .cells #[.slice Ao17 t185.length co17, .int .i64 t188] 28 (0, 0)) (by (with_reducible repeat (first | refine blk_drewN ?_ _ | refine blk_drew ?_ | refine blk_alloc ?_ _)); exact BK189.out) hb); have n5_ := Aside0.mk (below_step (by repeat (first | (with_reducible first | exact HB.out | apply below_alloc | apply pw_below_drewN | apply below_drew1 | refine below_set ?_ GE189.out) | exact HB.out)) hb); clear HO_0; clear HO187; clear BK189; clear HB; have HO_0 := n0_; have HO187 := n1_; have HO193 := n2_; have HO198 := n3_; have BK189 := n4_; have HB := n5_; clear n0_ n1_ n2_ n3_ n4_ n5_; (try clear hb); (try clear hb2); (try clear hk); (try clear hi); (try clear ho0); (try clear ho1)) | ((with_reducible refine gate_dst (N := 7) rfl ?_); refine box_event ?hg (N := 7) ?hd (cs := #[.slice none 0 0, .int .i64 0]) (t := 28) ?hr ?_; (case hd => rfl); (case hg => rfl); (case hr => first | (go_simp; done) | (go_simp; rfl)); intro gb201 hg w39 hbox hb; have n0_ := Aside0.mk (Kd.V_below (Kd.V_elderB (by (with_reducible repeat (first | apply Kd.V_alloc | apply Kd.V_drewN | apply Kd.V_drew)); exact HO_0.out) gb201 (Nat.le_of_eq hg.symm)) hb); have n1_ := Aside0.mk (Kd.N_below (Kd.N_elderB (by (with_reducible repeat (first | apply Kd.N_alloc | apply Kd.N_drewN | apply Kd.N_drew)); exact HO187.out) gb201 (Nat.le_of_eq hg.symm)) hb); have n2_ := Aside0.mk (Kd.N_below (Kd.N_elderB (by (with_reducible repeat (first | apply Kd.N_alloc | apply Kd.N_drewN | apply Kd.N_drew)); exact HO193.out) gb201 (Nat.le_of_eq hg.symm)) hb); have n3_ := Aside0.mk (Kd.R_below (by (with_reducible repeat (first | apply Kd.R_alloc | apply Kd.R_drewN | apply Kd.R_drew)); exact HO198.out) hb); have n4_ := Aside0.mk (blk_below (g := gb189) (o := .cells #[.slice Ao17 t185.length co17, .int .i64 t188] 28 (0, 0)) (by (with_reducible repeat (first | refine blk_drewN ?_ _ | refine blk_drew ?_ | refine blk_alloc ?_ _)); exact BK189.out) hb); have n5_ := Aside0.mk (below_step (by repeat (first | (with_reducible first | exact HB.out | apply below_alloc | apply pw_below_drewN | apply below_drew1 | refine below_set ?_ GE189.out) | exact HB.out)) hb); have n6_ := Aside0.mk (hbox); have n7_ := Aside0.mk ((by rw [hg]; exact (below_size (by repeat (first | (with_reducible first | exact HB.out | apply below_alloc | apply pw_below_drewN | apply below_drew1 | refine below_set ?_ GE189.out) | exact HB.out))) : w.heap.size ≤ gb201)); have n8_ := Aside0.mk ((by rw [hg]; exact (below_size (by repeat (first | (with_reducible first | exact HB.out | apply below_alloc | apply pw_below_drewN | apply below_drew1 | refine below_set ?_ GE189.out) | exact HB.out))) : w.heap.size ≤ gb201)); have n9_ := Aside0.mk ((by rw [hg]; exact Nat.ne_of_lt (blk_lt (g := gb189) (o := .cells #[.slice Ao17 t185.length co17, .int .i64 t188] 28 (0, 0)) (by (with_reducible repeat (first | refine blk_drewN ?_ _ | refine blk_drew ?_ | refine blk_alloc ?_ _)); exact BK189.out)) : gb189 ≠ gb201)); have n10_ := Aside0.mk ((by rw [hg]; exact Nat.ne_of_gt (blk_lt (g := gb189) (o := .cells #[.slice Ao17 t185.length co17, .int .i64 t188] 28 (0, 0)) (by (with_reducible repeat (first | refine blk_drewN ?_ _ | refine blk_drew ?_ | refine blk_alloc ?_ _)); exact BK189.out)) : gb201 ≠ gb189)); clear HO_0; clear HO187; clear HO193; clear HO198; clear BK189; clear HB; have HO_0 := n0_; have HO187 := n1_; have HO193 := n2_; have HO198 := n3_; have BK189 := n4_; have HB := n5_; have BK201 := n6_; have GW201 := n7_; have GE201 := n8_; have NB189_201 := n9_; have NB201_189 := n10_; clear n0_ n1_ n2_ n3_ n4_ n5_ n6_ n7_ n8_ n9_ n10_; clear hb hbox hg) | ((with_reducible refine gate_dst (N := 8) rfl ?_); refine box_event ?hg (N := 8) ?hd (cs := #[.int .i64 0, .slice none 0 0, .bool false]) (t := 26) ?hr ?_; (case hd => rfl); (case hg => rfl); (case hr => first | (go_simp; done) | (go_simp; rfl)); intro gb202 hg w40 hbox hb; have n0_ := Aside0.mk (Kd.V_below (Kd.V_elderB (by (with_reducible repeat (first | apply Kd.V_alloc | apply Kd.V_drewN | apply Kd.V_drew)); exact HO_0.out) gb202 (Nat.le_of_eq hg.symm)) hb); have n1_ := Aside0.mk (Kd.N_below (Kd.N_elderB (by (with_reducible repeat (first | apply Kd.N_alloc | apply Kd.N_drewN | apply Kd.N_drew)); exact HO187.out) gb202 (Nat.le_of_eq hg.symm)) hb); have n2_ := Aside0.mk (Kd.N_below (Kd.N_elderB (by (with_reducible repeat (first | apply Kd.N_alloc | apply Kd.N_drewN | apply Kd.N_drew)); exact HO193.out) gb202 (Nat.le_of_eq hg.symm)) hb); have n3_ := Aside0.mk (Kd.R_below (by (with_reducible repeat (first | apply Kd.R_alloc | apply Kd.R_drewN | apply Kd.R_drew)); exact HO198.out) hb); have n4_ := Aside0.mk (blk_below (g := gb189) (o := .cells #[.slice Ao17 t185.length co17, .int .i64 t188] 28 (0, 0)) (by (with_reducible repeat (first | refine blk_drewN ?_ _ | refine blk_drew ?_ | refine blk_alloc ?_ _)); exact BK189.out) hb); have n5_ := Aside0.mk (blk_below (g := gb201) (o := .cells #[.slice none 0 0, .int .i64 0] 28 (0, 0)) (by (with_reducible repeat (first | refine blk_drewN ?_ _ | refine blk_drew ?_ | refine blk_alloc ?_ _)); exact BK201.out) hb); have n6_ := Aside0.mk (below_step (by repeat (first | (with_reducible first | exact HB.out | apply below_alloc | apply pw_below_drewN | apply below_drew1 | refine below_set ?_ GE189.out | refine below_set ?_ GE201.out) | exact HB.out)) hb); have n7_ := Aside0.mk (hbox); have n8_ := Aside0.mk ((by rw [hg]; exact (below_size (by repeat (first | (with_reducible first | exact HB.out | apply below_alloc | apply pw_below_drewN | apply below_drew1 | refine below_set ?_ GE189.out | refine below_set ?_ GE201.out) | exact HB.out))) : w.heap.size ≤ gb202)); have n9_ := Aside0.mk ((by rw [hg]; exact (below_size (by repeat (first | (with_reducible first | exact HB.out | apply below_alloc | apply pw_below_drewN | apply below_drew1 | refine below_set ?_ GE189.out | refine below_set ?_ GE201.out) | exact HB.out))) : w.heap.size ≤ gb202)); have n10_ := Aside0.mk ((by rw [hg]; exact Nat.ne_of_lt (blk_lt (g := gb189) (o := .cells #[.slice Ao17 t185.length co17, .int .i64 t188] 28 (0, 0)) (by (with_reducible repeat (first | refine blk_drewN ?_ _ | refine blk_drew ?_ | refine blk_alloc ?_ _)); exact BK189.out)) : gb189 ≠ gb202)); have n11_ := Aside0.mk ((by rw [hg]; exact Nat.ne_of_gt (blk_lt (g := gb189) (o := .cells #[.slice Ao17 t185.length co17, .int .i64 t188] 28 (0, 0)) (by (with_reducible repeat (first | refine blk_drewN ?_ _ | refine blk_drew ?_ | refine blk_alloc ?_ _)); exact BK189.out)) : gb202 ≠ gb189)); have n12_ := Aside0.mk ((by rw [hg]; exact Nat.ne_of_lt (blk_lt (g := gb201) (o := .cells #[.slice none 0 0, .int .i64 0] 28 (0, 0)) (by (with_reducible repeat (first | refine blk_drewN ?_ _ | refine blk_drew ?_ | refine blk_alloc ?_ _)); exact BK201.out)) : gb201 ≠ gb202)); have n13_ := Aside0.mk ((by rw [hg]; exact Nat.ne_of_gt (blk_lt (g := gb201) (o := .cells #[.slice none 0 0, .int .i64 0] 28 (0, 0)) (by (with_reducible repeat (first | refine blk_drewN ?_ _ | refine blk_drew ?_ | refine blk_alloc ?_ _)); exact BK201.out)) : gb202 ≠ gb201)); clear HO_0; clear HO187; clear HO193; clear HO198; clear BK189; clear BK201; clear HB; have HO_0 := n0_; have HO187 := n1_; have HO193 := n2_; have HO198 := n3_; have BK189 := n4_; have BK201 := n5_; have HB := n6_; have BK202 := n7_; have GW202 := n8_; have GE202 := n9_; have NB189_202 := n10_; have NB202_189 := n11_; have NB201_202 := n12_; have NB202_201 := n13_; clear n0_ n1_ n2_ n3_ n4_ n5_ n6_ n7_ n8_ n9_ n10_ n11_ n12_ n13_; clear hb hbox hg; obtain ⟨Ao41, co41, eo41⟩ := Kd.N_slice HO193.out; subst eo41; have hnb42 := NB201_189.out; have hnc42 := NB189_201.out; have hnb43 := NB201_202.out; have hnc43 := NB202_201.out; have hcz44_0 : w40.cell? ⟨gb201, 0, none⟩ = some (.slice none 0 0) := (blk_cell BK201.out 0).trans rfl; have hcz44_1 : w40.cell? ⟨gb201, 1, none⟩ = some (.int .i64 0) := (blk_cell BK201.out 1).trans rfl; have hfz44_0 := blk_frozen BK201.out 0; have hfz44_1 := blk_frozen BK201.out 1; have hnb45 := NB202_189.out; have hnc45 := NB189_202.out; have hcz46_0 : w40.cell? ⟨gb202, 0, none⟩ = some (.int .i64 0) := (blk_cell BK202.out 0).trans rfl; have hcz46_1 : w40.cell? ⟨gb202, 1, none⟩ = some (.slice none 0 0) := (blk_cell BK202.out 1).trans rfl; have hcz46_2 : w40.cell? ⟨gb202, 2, none⟩ = some (.bool false) := (blk_cell BK202.out 2).trans rfl; have hfz46_0 := blk_frozen BK202.out 0; have hfz46_1 := blk_frozen BK202.out 1; have hfz46_2 := blk_frozen BK202.out 2; obtain ⟨Ao47, co47, eo47⟩ := Kd.R_slice HO198.out; subst eo47))
                                      have n0_ : Aside0 (Kd.V k26 26 (((((w40.setCell ⟨gb201, 0, none⟩ (.slice Ao41 t191.length co41)).setCell ⟨gb201, 1, none⟩ (.int .i64 t194)).setCell ⟨gb202, 0, none⟩ (.int .i64 t195)).setCell ⟨gb202, 1, none⟩ (.slice Ao47 t196.length co47)).setCell ⟨gb202, 2, none⟩ (.bool t199)) w.heap.size (fun k_ => (P0_ k_ ∨ w.heap.size ≤ k_) ∧ some k_ ≠ (.slice Ao17 t185.length co17 : Value).ownBlock ∧ some k_ ≠ (.slice Ao41 t191.length co41 : Value).ownBlock ∧ some k_ ≠ (.slice Ao47 t196.length co47 : Value).ownBlock ∧ k_ ≠ gb189 ∧ k_ ≠ gb201 ∧ k_ ≠ gb202) (.slice A0 l0.length c0) l0) := ⟨by (with_reducible repeat (first | apply Kd.V_alloc | apply Kd.V_drewN | apply Kd.V_drew)); exact Kd.V_mono (Kd.V_far (p := ⟨gb202, 2, none⟩) (Kd.V_far (p := ⟨gb202, 1, none⟩) (Kd.V_far (p := ⟨gb202, 0, none⟩) (Kd.V_far (p := ⟨gb201, 1, none⟩) (Kd.V_far (p := ⟨gb201, 0, none⟩) (Kd.V_mono (Kd.V_mono HO_0.out (fun k_ hk => (⟨hk, hk.1.2⟩ : _ ∧ k_ ≠ gb201))) (fun k_ hk => (⟨hk, hk.1.2⟩ : _ ∧ k_ ≠ gb202))) (fun _ hk => hk.1.2) (.slice Ao41 t191.length co41)) (fun _ hk => hk.1.2) (.int .i64 t194)) (fun _ hk => hk.2) (.int .i64 t195)) (fun _ hk => hk.2) (.slice Ao47 t196.length co47)) (fun _ hk => hk.2) (.bool t199)) (fun _ hk => ⟨hk.1.1.1.1.1.1.1.1, ⟨hk.1.1.1.1.1.1.1.2, ⟨hk.1.1.1.1.1.2, ⟨hk.1.1.1.1.2, ⟨hk.1.1.1.1.1.1.2, ⟨hk.1.1.1.2, hk.1.1.2⟩⟩⟩⟩⟩⟩)⟩
                                      have n1_ : Aside0 (Kd.N k26 26 (((((w40.setCell ⟨gb201, 0, none⟩ (.slice Ao41 t191.length co41)).setCell ⟨gb201, 1, none⟩ (.int .i64 t194)).setCell ⟨gb202, 0, none⟩ (.int .i64 t195)).setCell ⟨gb202, 1, none⟩ (.slice Ao47 t196.length co47)).setCell ⟨gb202, 2, none⟩ (.bool t199)) w.heap.size (fun k_ => (P0_ k_ ∨ w.heap.size ≤ k_) ∧ some k_ ≠ (.slice Ao41 t191.length co41 : Value).ownBlock ∧ some k_ ≠ (.slice Ao47 t196.length co47 : Value).ownBlock ∧ k_ ≠ gb189 ∧ k_ ≠ gb201 ∧ k_ ≠ gb202) (.slice Ao17 t185.length co17) t185) := ⟨by (with_reducible repeat (first | apply Kd.N_alloc | apply Kd.N_drewN | apply Kd.N_drew)); exact Kd.N_mono (Kd.N_far (p := ⟨gb202, 2, none⟩) (Kd.N_far (p := ⟨gb202, 1, none⟩) (Kd.N_far (p := ⟨gb202, 0, none⟩) (Kd.N_far (p := ⟨gb201, 1, none⟩) (Kd.N_far (p := ⟨gb201, 0, none⟩) (Kd.N_mono (Kd.N_mono HO187.out (fun k_ hk => (⟨hk, hk.1.2⟩ : _ ∧ k_ ≠ gb201))) (fun k_ hk => (⟨hk, hk.1.2⟩ : _ ∧ k_ ≠ gb202))) (fun _ hk => hk.1.2) (.slice Ao41 t191.length co41)) (fun _ hk => hk.1.2) (.int .i64 t194)) (fun _ hk => hk.2) (.int .i64 t195)) (fun _ hk => hk.2) (.slice Ao47 t196.length co47)) (fun _ hk => hk.2) (.bool t199)) (fun _ hk => ⟨hk.1.1.1.1.1.1.1, ⟨hk.1.1.1.1.1.2, ⟨hk.1.1.1.1.2, ⟨hk.1.1.1.1.1.1.2, ⟨hk.1.1.1.2, hk.1.1.2⟩⟩⟩⟩⟩)⟩
                                      have n2_ : Aside0 (Kd.N k26 26 (((((w40.setCell ⟨gb201, 0, none⟩ (.slice Ao41 t191.length co41)).setCell ⟨gb201, 1, none⟩ (.int .i64 t194)).setCell ⟨gb202, 0, none⟩ (.int .i64 t195)).setCell ⟨gb202, 1, none⟩ (.slice Ao47 t196.length co47)).setCell ⟨gb202, 2, none⟩ (.bool t199)) w.heap.size (fun k_ => (P0_ k_ ∨ w.heap.size ≤ k_) ∧ some k_ ≠ (.slice Ao17 t185.length co17 : Value).ownBlock ∧ some k_ ≠ (.slice Ao47 t196.length co47 : Value).ownBlock ∧ k_ ≠ gb189 ∧ k_ ≠ gb201 ∧ k_ ≠ gb202) (.slice Ao41 t191.length co41) t191) := ⟨by (with_reducible repeat (first | apply Kd.N_alloc | apply Kd.N_drewN | apply Kd.N_drew)); exact Kd.N_mono (Kd.N_far (p := ⟨gb202, 2, none⟩) (Kd.N_far (p := ⟨gb202, 1, none⟩) (Kd.N_far (p := ⟨gb202, 0, none⟩) (Kd.N_far (p := ⟨gb201, 1, none⟩) (Kd.N_far (p := ⟨gb201, 0, none⟩) (Kd.N_mono (Kd.N_mono HO193.out (fun k_ hk => (⟨hk, hk.1.2⟩ : _ ∧ k_ ≠ gb201))) (fun k_ hk => (⟨hk, hk.1.2⟩ : _ ∧ k_ ≠ gb202))) (fun _ hk => hk.1.2) (.slice Ao41 t191.length co41)) (fun _ hk => hk.1.2) (.int .i64 t194)) (fun _ hk => hk.2) (.int .i64 t195)) (fun _ hk => hk.2) (.slice Ao47 t196.length co47)) (fun _ hk => hk.2) (.bool t199)) (fun _ hk => ⟨hk.1.1.1.1.1, ⟨hk.1.1.1.1.2.2.1, ⟨hk.1.1.1.1.2.1, ⟨hk.1.1.1.1.2.2.2, ⟨hk.1.1.1.2, hk.1.1.2⟩⟩⟩⟩⟩)⟩
                                      have n3_ : Aside0 (Kd.R (Kd.int .u8) 5 (((((w40.setCell ⟨gb201, 0, none⟩ (.slice Ao41 t191.length co41)).setCell ⟨gb201, 1, none⟩ (.int .i64 t194)).setCell ⟨gb202, 0, none⟩ (.int .i64 t195)).setCell ⟨gb202, 1, none⟩ (.slice Ao47 t196.length co47)).setCell ⟨gb202, 2, none⟩ (.bool t199)) w.heap.size (fun k_ => (w.heap.size ≤ k_)) (.slice Ao47 t196.length co47) t196) := ⟨by (with_reducible repeat (first | apply Kd.R_alloc | apply Kd.R_drewN | apply Kd.R_drew)); exact Kd.R_mono (Kd.R_far (p := ⟨gb202, 2, none⟩) (Kd.R_far (p := ⟨gb202, 1, none⟩) (Kd.R_far (p := ⟨gb202, 0, none⟩) (Kd.R_far (p := ⟨gb201, 1, none⟩) (Kd.R_far (p := ⟨gb201, 0, none⟩) (Kd.R_types (Kd.R_types HO198.out BK201.out (by decide)) BK202.out (by decide)) (fun _ hk => hk.1.2) (.slice Ao41 t191.length co41)) (fun _ hk => hk.1.2) (.int .i64 t194)) (fun _ hk => hk.2) (.int .i64 t195)) (fun _ hk => hk.2) (.slice Ao47 t196.length co47)) (fun _ hk => hk.2) (.bool t199)) (fun _ hk => hk.1.1.1)⟩
                                      have n4_ : Aside0 ((((((w40.setCell ⟨gb201, 0, none⟩ (.slice Ao41 t191.length co41)).setCell ⟨gb201, 1, none⟩ (.int .i64 t194)).setCell ⟨gb202, 0, none⟩ (.int .i64 t195)).setCell ⟨gb202, 1, none⟩ (.slice Ao47 t196.length co47)).setCell ⟨gb202, 2, none⟩ (.bool t199)).heap[gb189]? = some (.cells #[.slice Ao17 t185.length co17, .int .i64 t188] 28 (0, 0))) := ⟨by (with_reducible repeat (first | refine blk_drewN ?_ _ | refine blk_drew ?_ | refine blk_alloc ?_ _)); refine blk_far ?_ NB189_202.out _; (with_reducible repeat (first | refine blk_drewN ?_ _ | refine blk_drew ?_ | refine blk_alloc ?_ _)); refine blk_far ?_ NB189_202.out _; (with_reducible repeat (first | refine blk_drewN ?_ _ | refine blk_drew ?_ | refine blk_alloc ?_ _)); refine blk_far ?_ NB189_202.out _; (with_reducible repeat (first | refine blk_drewN ?_ _ | refine blk_drew ?_ | refine blk_alloc ?_ _)); refine blk_far ?_ NB189_201.out _; (with_reducible repeat (first | refine blk_drewN ?_ _ | refine blk_drew ?_ | refine blk_alloc ?_ _)); refine blk_far ?_ NB189_201.out _; (with_reducible repeat (first | refine blk_drewN ?_ _ | refine blk_drew ?_ | refine blk_alloc ?_ _)); exact BK189.out⟩
                                      have n5_ : Aside0 ((((((w40.setCell ⟨gb201, 0, none⟩ (.slice Ao41 t191.length co41)).setCell ⟨gb201, 1, none⟩ (.int .i64 t194)).setCell ⟨gb202, 0, none⟩ (.int .i64 t195)).setCell ⟨gb202, 1, none⟩ (.slice Ao47 t196.length co47)).setCell ⟨gb202, 2, none⟩ (.bool t199)).heap[gb201]? = some (.cells #[.slice Ao41 t191.length co41, .int .i64 t194] 28 (0, 0))) := ⟨by (with_reducible repeat (first | refine blk_drewN ?_ _ | refine blk_drew ?_ | refine blk_alloc ?_ _)); refine blk_far ?_ NB201_202.out _; (with_reducible repeat (first | refine blk_drewN ?_ _ | refine blk_drew ?_ | refine blk_alloc ?_ _)); refine blk_far ?_ NB201_202.out _; (with_reducible repeat (first | refine blk_drewN ?_ _ | refine blk_drew ?_ | refine blk_alloc ?_ _)); refine blk_far ?_ NB201_202.out _; (with_reducible repeat (first | refine blk_drewN ?_ _ | refine blk_drew ?_ | refine blk_alloc ?_ _)); refine blk_put (cs := #[.slice Ao41 t191.length co41, .int .i64 0]) ?_ 1 _ rfl; (with_reducible repeat (first | refine blk_drewN ?_ _ | refine blk_drew ?_ | refine blk_alloc ?_ _)); refine blk_put (cs := #[.slice none 0 0, .int .i64 0]) ?_ 0 _ rfl; (with_reducible repeat (first | refine blk_drewN ?_ _ | refine blk_drew ?_ | refine blk_alloc ?_ _)); exact BK201.out⟩
                                      have n6_ : Aside0 ((((((w40.setCell ⟨gb201, 0, none⟩ (.slice Ao41 t191.length co41)).setCell ⟨gb201, 1, none⟩ (.int .i64 t194)).setCell ⟨gb202, 0, none⟩ (.int .i64 t195)).setCell ⟨gb202, 1, none⟩ (.slice Ao47 t196.length co47)).setCell ⟨gb202, 2, none⟩ (.bool t199)).heap[gb202]? = some (.cells #[.int .i64 t195, .slice Ao47 t196.length co47, .bool t199] 26 (0, 0))) := ⟨by (with_reducible repeat (first | refine blk_drewN ?_ _ | refine blk_drew ?_ | refine blk_alloc ?_ _)); refine blk_put (cs := #[.int .i64 t195, .slice Ao47 t196.length co47, .bool false]) ?_ 2 _ rfl; (with_reducible repeat (first | refine blk_drewN ?_ _ | refine blk_drew ?_ | refine blk_alloc ?_ _)); refine blk_put (cs := #[.int .i64 t195, .slice none 0 0, .bool false]) ?_ 1 _ rfl; (with_reducible repeat (first | refine blk_drewN ?_ _ | refine blk_drew ?_ | refine blk_alloc ?_ _)); refine blk_put (cs := #[.int .i64 0, .slice none 0 0, .bool false]) ?_ 0 _ rfl; (with_reducible repeat (first | refine blk_drewN ?_ _ | refine blk_drew ?_ | refine blk_alloc ?_ _)); refine blk_far ?_ NB202_201.out _; (with_reducible repeat (first | refine blk_drewN ?_ _ | refine blk_drew ?_ | refine blk_alloc ?_ _)); refine blk_far ?_ NB202_201.out _; (with_reducible repeat (first | refine blk_drewN ?_ _ | refine blk_drew ?_ | refine blk_alloc ?_ _)); exact BK202.out⟩
                                      have n7_ : Aside0 (Below w.heap.size w (((((w40.setCell ⟨gb201, 0, none⟩ (.slice Ao41 t191.length co41)).setCell ⟨gb201, 1, none⟩ (.int .i64 t194)).setCell ⟨gb202, 0, none⟩ (.int .i64 t195)).setCell ⟨gb202, 1, none⟩ (.slice Ao47 t196.length co47)).setCell ⟨gb202, 2, none⟩ (.bool t199))) := ⟨by repeat (first | (with_reducible first | exact HB.out | apply below_alloc | apply pw_below_drewN | apply below_drew1 | refine below_set ?_ GE189.out | refine below_set ?_ GE201.out | refine below_set ?_ GE202.out) | exact HB.out)⟩
                                      (try clear HO_0)
                                      (try clear HO187)
                                      (try clear HO193)
                                      (try clear HO198)
                                      (try clear BK189)
                                      (try clear BK201)
                                      (try clear BK202)
                                      (try clear HB)
                                      generalize (((((w40.setCell ⟨gb201, 0, none⟩ (.slice Ao41 t191.length co41)).setCell ⟨gb201, 1, none⟩ (.int .i64 t194)).setCell ⟨gb202, 0, none⟩ (.int .i64 t195)).setCell ⟨gb202, 1, none⟩ (.slice Ao47 t196.length co47)).setCell ⟨gb202, 2, none⟩ (.bool t199)) = w48 at n0_ n1_ n2_ n3_ n4_ n5_ n6_ n7_ ⊢
                                      have HO_0 := n0_
                                      have HO187 := n1_
                                      have HO193 := n2_
                                      have HO198 := n3_
                                      have BK189 := n4_
                                      have BK201 := n5_
                                      have BK202 := n6_
                                      have HB := n7_
                                      clear n0_ n1_ n2_ n3_ n4_ n5_ n6_ n7_
                                      have n0_ := Aside0.mk (Kd.V_drew HO_0.out)
                                      have n1_ := Aside0.mk (Kd.N_drew HO187.out)
                                      have n2_ := Aside0.mk (Kd.N_drew HO193.out)
                                      have n3_ := Aside0.mk (Kd.R_drew HO198.out)
                                      have n4_ := Aside0.mk (blk_drew BK189.out)
                                      have n5_ := Aside0.mk (blk_drew BK201.out)
                                      have n6_ := Aside0.mk (blk_drew BK202.out)
                                      have n7_ := Aside0.mk (below_drew1 HB.out)
                                      clear HO_0
                                      clear HO187
                                      clear HO193
                                      clear HO198
                                      clear BK189
                                      clear BK201
                                      clear BK202
                                      clear HB
                                      have HO_0 := n0_
                                      have HO187 := n1_
                                      have HO193 := n2_
                                      have HO198 := n3_
                                      have BK189 := n4_
                                      have BK201 := n5_
                                      have BK202 := n6_
                                      have HB := n7_
                                      clear n0_ n1_ n2_ n3_ n4_ n5_ n6_ n7_
                                      have q50 : ((ji23) : Int) ≤ ((l0.length : Int) : Int) := of_decide_eq_true (by first | (with_reducible assumption) | assumption)
                                      obtain ⟨i050, hi050, _, hsz50, _⟩ := info_parts info26
                                      have hroom50 : l0.length ≤ c0 := (Kd.V_reads' HO_0.out).2.1
                                      have hC50 : Kd.F k26 _ _ A0 l0.length l0 := (Kd.V_at (base := w.heap.size) HO_0.out).2.2
                                      have hcut50 := cut_to (P := Try.prog) 22 26 .i64 Try.underlying22 hi050 A0 l0.length c0 (ji23) (of_decide_eq_true (by first | (with_reducible assumption) | assumption)) q50 hroom50
                                      have hr50 := Kd.F_take (m := ((ji23) : Int).toNat) hC50 (by omega)
                                      have hy50 : y206.length = ((ji23) : Int).toNat := (by rw [Ny206.out, List.length_take]; omega)
                                      rw [← Ny206.out] at hr50
                                      rw [← hy50] at hcut50
                                      have HO210 := Aside0.mk (show Kd.V k26 26 _ w.heap.size _ (.slice A0 y206.length c0) y206 from Kd.V_mk (by omega) hr50)
                                      have HC210 := Aside0.mk (show y206.length ≤ c0 from by omega)
                                      clear hr50 hC50 hroom50 hi050 hsz50
                                      have KY50 := Aside0.mk hy50
                                      clear hy50
                                      replace q50 := eq_true q50
                                      have q51 : ((ji27) : Int) ≤ ((l0.length : Int) : Int) := of_decide_eq_true (by first | (with_reducible assumption) | assumption)
                                      obtain ⟨i051, hi051, _, hsz51, _⟩ := info_parts info26
                                      have hroom51 : l0.length ≤ c0 := (Kd.V_reads' HO_0.out).2.1
                                      have hC51 : Kd.F k26 _ _ A0 l0.length l0 := (Kd.V_at (base := w.heap.size) HO_0.out).2.2
                                      have q051 : (0 : Int) ≤ ((ji27) : Int) := of_decide_eq_true (by first | (with_reducible assumption) | assumption)
                                      have hcut51 := cut_from (P := Try.prog) 22 26 .i64 Try.underlying22 hi051 3 hsz51 A0 l0.length c0 (ji27) q051 q51
                                      have hr51 := Kd.F_cut (m := ((ji27) : Int).toNat) (c := c0) hC51 (by omega) hroom51
                                      obtain ⟨A51, hA51⟩ : ∃ A1, A1 = (if c0 = ((ji27) : Int).toNat then A0 else (A0 : Option Addr).map (·.add (((ji27) : Int).toNat * 3))) := ⟨_, rfl⟩
                                      obtain ⟨c51, hc51⟩ : ∃ c1, c1 = c0 - ((ji27) : Int).toNat := ⟨_, rfl⟩
                                      have hy51 : y214.length = l0.length - ((ji27) : Int).toNat := (by rw [Ny214.out, List.length_drop] <;> omega)
                                      rw [show (l0).drop ((ji27) : Int).toNat = y214 from Ny214.out.symm] at hr51
                                      replace hr51 : Kd.F k26 _ _ A51 y214.length y214 := (by rw [hA51]; exact hr51)
                                      rw [← hy51, ← hA51, ← hc51] at hcut51
                                      have HO218 := Aside0.mk (show Kd.V k26 26 _ w.heap.size _ (.slice A51 y214.length c51) y214 from Kd.V_mk (by rw [hy51, hc51]; exact Nat.sub_le_sub_right hroom51 _) hr51)
                                      have HC218 := Aside0.mk (show y214.length ≤ c51 from by rw [hy51, hc51]; exact Nat.sub_le_sub_right hroom51 _)
                                      clear hr51 hC51 hroom51 hi051 hsz51 hc51
                                      have KY51 := Aside0.mk hy51
                                      have KA51 := Aside0.mk hA51
                                      clear hy51 hA51
                                      replace q51 := eq_true q51
                                      refine start_ (n := 11) (S := fun w' => True) (ds := []) #[false, false, false, false, false, false, false, false, false, false, false] (by kernel_rfl) rfl rfl trivial (fun hHeld => ?_); refine with_tabW garlandlaw08_BagFirst.tab14 garlandlaw08_BagFirst.bits14 (fun HT_ HW_ => ?_)
                                      generalize w48.drew = w49 at HO_0 HO187 HO193 HO198 BK189 BK201 BK202 HB HO210 HO218 hHeld ⊢
                                      refine pure_ (i := 1) (N := some 62) (v := ?_) (a' := ?_) #[false, true, false, false, false, false, false, false, false, false, false] rfl rfl (any_of HT_.out (by kernel_rfl)) (fun _ _ _ h => h) (Or.inl ⟨by rfl, ?_⟩) ?_ ?_
                                      rotate_left
                                      · intro w'
                                        go_simp
                                        with_reducible rfl
                                      rotate_left
                                      · simp only [Act.put, List.setIfInBounds_toArray, List.set_cons_zero, List.set_cons_succ, i64_w, i32_w]
                                        rfl
                                      refine pure_ (i := 2) (N := some 63) (v := ?_) (a' := ?_) #[false, true, true, false, false, false, false, false, false, false, false] rfl rfl (any_of HT_.out (by kernel_rfl)) (fun _ _ _ h => h) (Or.inl ⟨by rfl, ?_⟩) ?_ ?_
                                      rotate_left
                                      · intro w'
                                        go_simp
                                        with_reducible rfl
                                      rotate_left
                                      · simp only [Act.put, List.setIfInBounds_toArray, List.set_cons_zero, List.set_cons_succ, i64_w, i32_w]
                                        rfl
                                      refine pure_ (i := 3) (N := some 64) (v := ?_) (a' := ?_) #[false, true, true, true, false, false, false, false, false, false, false] rfl rfl (any_of HT_.out (by kernel_rfl)) (fun _ _ _ h => h) (Or.inl ⟨by rfl, ?_⟩) ?_ ?_
                                      rotate_left
                                      · intro w'
                                        go_simp
                                        with_reducible rfl
                                      rotate_left
                                      · simp only [Act.put, List.setIfInBounds_toArray, List.set_cons_zero, List.set_cons_succ, i64_w, i32_w]
                                        rfl
                                      refine pure_ (i := 5) (N := some 66) (v := ?_) (a' := ?_) #[false, true, true, true, false, true, false, false, false, false, false] rfl rfl (any_of HT_.out (by kernel_rfl)) (fun _ _ _ h => h) (Or.inl ⟨by rfl, ?_⟩) ?_ ?_
                                      rotate_left
                                      · intro w'
                                        go_simp
                                        with_reducible rfl
                                      rotate_left
                                      · simp only [Act.put, List.setIfInBounds_toArray, List.set_cons_zero, List.set_cons_succ, i64_w, i32_w]
                                        rfl
                                      refine pure_ (i := 6) (N := some 67) (v := ?_) (a' := ?_) #[false, true, true, true, false, true, true, false, false, false, false] rfl rfl (any_of HT_.out (by kernel_rfl)) (fun _ _ _ h => h) (Or.inl ⟨by rfl, ?_⟩) ?_ ?_
                                      rotate_left
                                      · intro w'
                                        go_simp
                                        with_reducible rfl
                                      rotate_left
                                      · simp only [Act.put, List.setIfInBounds_toArray, List.set_cons_zero, List.set_cons_succ, i64_w, i32_w]
                                        rfl
                                      refine pure_ (i := 7) (N := some 68) (v := ?_) (a' := ?_) #[false, true, true, true, false, true, true, true, false, false, false] rfl rfl (any_of HT_.out (by kernel_rfl)) (fun _ _ _ h => h) (Or.inl ⟨by rfl, ?_⟩) ?_ ?_
                                      rotate_left
                                      · intro w'
                                        go_simp
                                        with_reducible rfl
                                      rotate_left
                                      · simp only [Act.put, List.setIfInBounds_toArray, List.set_cons_zero, List.set_cons_succ, i64_w, i32_w]
                                        rfl
                                      refine pure_ (i := 8) (N := some 69) (v := ?_) (a' := ?_) #[false, true, true, true, false, true, true, true, true, false, false] rfl rfl (any_of HT_.out (by kernel_rfl)) (fun _ _ _ h => h) (Or.inl ⟨by rfl, ?_⟩) ?_ ?_
                                      rotate_left
                                      · intro w'
                                        go_simp
                                        with_reducible rfl
                                      rotate_left
                                      · simp only [Act.put, List.setIfInBounds_toArray, List.set_cons_zero, List.set_cons_succ, i64_w, i32_w]
                                        rfl
                                      refine one_ (i := 0) (N := some 61) #[true, true, true, true, false, true, true, true, true, false, false] rfl rfl (one_of HT_.out (by kernel_rfl)) (by decide) (fun K hK => ?_)
                                      refine Kd.N_lit_step k26 _ 26 ?hg (N' := 61) ?hd (xs := ([] : List (S26))) (inner := []) (ok := (fun k_ => (P0_ k_ ∨ w.heap.size ≤ k_) ∧ some k_ ≠ (.slice Ao17 t185.length co17 : Value).ownBlock ∧ some k_ ≠ (.slice Ao41 t191.length co41 : Value).ownBlock ∧ some k_ ≠ (.slice Ao47 t196.length co47 : Value).ownBlock ∧ k_ ≠ gb189 ∧ k_ ≠ gb201 ∧ k_ ≠ gb202)) (okp := (fun k_ => (P0_ k_ ∨ w.heap.size ≤ k_) ∧ some k_ ≠ (.slice Ao17 t185.length co17 : Value).ownBlock ∧ some k_ ≠ (.slice Ao41 t191.length co41 : Value).ownBlock ∧ some k_ ≠ (.slice Ao47 t196.length co47 : Value).ownBlock ∧ k_ ≠ gb189 ∧ k_ ≠ gb201 ∧ k_ ≠ gb202)) ?hr ?hp (fun _ hk => hk) ((show ∀ k_, w49.heap.size ≤ k_ → (fun k_ => (P0_ k_ ∨ w.heap.size ≤ k_) ∧ some k_ ≠ (.slice Ao17 t185.length co17 : Value).ownBlock ∧ some k_ ≠ (.slice Ao41 t191.length co41 : Value).ownBlock ∧ some k_ ≠ (.slice Ao47 t196.length co47 : Value).ownBlock ∧ k_ ≠ gb189 ∧ k_ ≠ gb201 ∧ k_ ≠ gb202) k_ from fun k_ hk => ⟨(.inr (Nat.le_trans (below_size (by repeat (first | (with_reducible first | exact HB.out | apply below_alloc | apply pw_below_drewN | apply below_drew1 | refine below_set ?_ GE189.out | refine below_set ?_ GE201.out | refine below_set ?_ GE202.out) | exact HB.out))) hk)), Kd.fresh' (Kd.N_lt (by (with_reducible repeat (first | apply Kd.N_alloc | apply Kd.N_drewN | apply Kd.N_drew)); exact HO187.out)) k_ hk, Kd.fresh' (Kd.N_lt (by (with_reducible repeat (first | apply Kd.N_alloc | apply Kd.N_drewN | apply Kd.N_drew)); exact HO193.out)) k_ hk, Kd.fresh' (Kd.R_lt (by (with_reducible repeat (first | apply Kd.R_alloc | apply Kd.R_drewN | apply Kd.R_drew)); exact HO198.out)) k_ hk, Kd.freshB (g := gb189) (o := .cells #[.slice Ao17 t185.length co17, .int .i64 t188] 28 (0, 0)) (by (with_reducible repeat (first | refine blk_drewN ?_ _ | refine blk_drew ?_ | refine blk_alloc ?_ _)); exact BK189.out) k_ hk, Kd.freshB (g := gb201) (o := .cells #[.slice Ao41 t191.length co41, .int .i64 t194] 28 (0, 0)) (by (with_reducible repeat (first | refine blk_drewN ?_ _ | refine blk_drew ?_ | refine blk_alloc ?_ _)); exact BK201.out) k_ hk, Kd.freshB (g := gb202) (o := .cells #[.int .i64 t195, .slice Ao47 t196.length co47, .bool t199] 26 (0, 0)) (by (with_reducible repeat (first | refine blk_drewN ?_ _ | refine blk_drew ?_ | refine blk_alloc ?_ _)); exact BK202.out) k_ hk⟩) _ (Nat.le_refl _)) (Below.refl _ _) (Nat.le_refl _) (by simp) ?_; (case hd => rfl); (case hg => rfl); (case hr => first | (go_simp; done) | (go_simp; rfl)); (case hp => exact (Reps.none _ _))
                                      intro v204 w52 ho53 hb hg_ hnew_
                                      clear hg_ hnew_
                                      (first | rw [← Ny203.out] at ho53 | (simp only [Int.reduceToNat] at ho53; rw [← Ny203.out] at ho53))
                                      have n0_ := Aside0.mk (Kd.V_elder' (by (with_reducible repeat (first | apply Kd.V_alloc | apply Kd.V_drewN | apply Kd.V_drew)); exact HO_0.out) (Kd.N_base ho53) hb)
                                      have n1_ := Aside0.mk (Kd.N_elder' (by (with_reducible repeat (first | apply Kd.N_alloc | apply Kd.N_drewN | apply Kd.N_drew)); exact HO187.out) (Kd.N_base ho53) hb)
                                      have n2_ := Aside0.mk (Kd.N_elder' (by (with_reducible repeat (first | apply Kd.N_alloc | apply Kd.N_drewN | apply Kd.N_drew)); exact HO193.out) (Kd.N_base ho53) hb)
                                      have n3_ := Aside0.mk (Kd.R_below (by (with_reducible repeat (first | apply Kd.R_alloc | apply Kd.R_drewN | apply Kd.R_drew)); exact HO198.out) hb)
                                      have n4_ := Aside0.mk (Kd.V_elder' (by (with_reducible repeat (first | apply Kd.V_alloc | apply Kd.V_drewN | apply Kd.V_drew)); exact HO210.out) (Kd.N_base ho53) hb)
                                      have n5_ := Aside0.mk (Kd.V_elder' (by (with_reducible repeat (first | apply Kd.V_alloc | apply Kd.V_drewN | apply Kd.V_drew)); exact HO218.out) (Kd.N_base ho53) hb)
                                      have n6_ := Aside0.mk (Kd.N_lower ho53 (below_size (by repeat (first | (with_reducible first | exact HB.out | apply below_alloc | apply pw_below_drewN | apply below_drew1 | refine below_set ?_ GE189.out | refine below_set ?_ GE201.out | refine below_set ?_ GE202.out) | exact HB.out))))
                                      have n7_ := Aside0.mk (blk_below (g := gb189) (o := .cells #[.slice Ao17 t185.length co17, .int .i64 t188] 28 (0, 0)) (by (with_reducible repeat (first | refine blk_drewN ?_ _ | refine blk_drew ?_ | refine blk_alloc ?_ _)); exact BK189.out) hb)
                                      have n8_ := Aside0.mk (blk_below (g := gb201) (o := .cells #[.slice Ao41 t191.length co41, .int .i64 t194] 28 (0, 0)) (by (with_reducible repeat (first | refine blk_drewN ?_ _ | refine blk_drew ?_ | refine blk_alloc ?_ _)); exact BK201.out) hb)
                                      have n9_ := Aside0.mk (blk_below (g := gb202) (o := .cells #[.int .i64 t195, .slice Ao47 t196.length co47, .bool t199] 26 (0, 0)) (by (with_reducible repeat (first | refine blk_drewN ?_ _ | refine blk_drew ?_ | refine blk_alloc ?_ _)); exact BK202.out) hb)
                                      have n10_ := Aside0.mk (below_step (by repeat (first | (with_reducible first | exact HB.out | apply below_alloc | apply pw_below_drewN | apply below_drew1 | refine below_set ?_ GE189.out | refine below_set ?_ GE201.out | refine below_set ?_ GE202.out) | exact HB.out)) hb)
                                      clear HO_0
                                      clear HO187
                                      clear HO193
                                      clear HO198
                                      clear HO210
                                      clear HO218
                                      clear BK189
                                      clear BK201
                                      clear BK202
                                      clear HB
                                      have HO_0 := n0_
                                      have HO187 := n1_
                                      have HO193 := n2_
                                      have HO198 := n3_
                                      have HO210 := n4_
                                      have HO218 := n5_
                                      have HO205 := n6_
                                      have BK189 := n7_
                                      have BK201 := n8_
                                      have BK202 := n9_
                                      have HB := n10_
                                      clear n0_ n1_ n2_ n3_ n4_ n5_ n6_ n7_ n8_ n9_ n10_
                                      clear hb ho53
                                      refine hK.out _ _ trivial (fun hHeld => ?_)
                                      clear hK K
                                      refine norm_ (a' := ?_) ?_ ?_
                                      rotate_left
                                      · show Act.put _ (some 61) _ = _
                                        simp only [Act.put, List.setIfInBounds_toArray, List.set_cons_zero, List.set_cons_succ, i64_w, i32_w]
                                        rfl
                                      refine one_ (i := 4) (N := some 65) #[true, true, true, true, true, true, true, true, true, false, false] rfl rfl (one_of HT_.out (by kernel_rfl)) (by decide) (fun K hK => ?_)
                                      refine Kd.N_append_rows_step k26 (w0 := w) w.heap.size (by rfl) (.tmp 61) (.tmp 64) 22 26 (.agg #[(.int .i64 0), (.slice none 0 0), (.bool false)]) 40 rfl Try.underlying22 info26 rfl (by decide) (by omega) v204 y203 y206 _ _ _ (fun k_ => (P0_ k_ ∨ w.heap.size ≤ k_) ∧ some k_ ≠ (.slice Ao17 t185.length co17 : Value).ownBlock ∧ some k_ ≠ (.slice Ao41 t191.length co41 : Value).ownBlock ∧ some k_ ≠ (.slice Ao47 t196.length co47 : Value).ownBlock ∧ k_ ≠ gb189 ∧ k_ ≠ gb201 ∧ k_ ≠ gb202) (fun k_ => ((fun k_ => (P0_ k_ ∨ w.heap.size ≤ k_) ∧ some k_ ≠ (.slice Ao17 t185.length co17 : Value).ownBlock ∧ some k_ ≠ (.slice Ao41 t191.length co41 : Value).ownBlock ∧ some k_ ≠ (.slice Ao47 t196.length co47 : Value).ownBlock ∧ k_ ≠ gb189 ∧ k_ ≠ gb201 ∧ k_ ≠ gb202)) k_ ∧ some k_ ≠ (v204 : Value).ownBlock) rfl rfl ?aO ?aR (fun _ hk => hk) ?aF ?aB ?aS ?aL ?_
                                      (case aR => exact (by skip; exact Kd.V_F (Kd.V_mono (ok' := (fun k_ => ((fun k_ => (P0_ k_ ∨ w.heap.size ≤ k_) ∧ some k_ ≠ (.slice Ao17 t185.length co17 : Value).ownBlock ∧ some k_ ≠ (.slice Ao41 t191.length co41 : Value).ownBlock ∧ some k_ ≠ (.slice Ao47 t196.length co47 : Value).ownBlock ∧ k_ ≠ gb189 ∧ k_ ≠ gb201 ∧ k_ ≠ gb202)) k_ ∧ some k_ ≠ (v204 : Value).ownBlock)) (HO210.out) (fun k_ hk => ⟨⟨hk.1.1, ⟨hk.1.2.1, ⟨hk.1.2.2.1, ⟨hk.1.2.2.2.1, ⟨hk.1.2.2.2.2.1, ⟨hk.1.2.2.2.2.2.1, hk.1.2.2.2.2.2.2⟩⟩⟩⟩⟩⟩, hk.2⟩))))
                                      (case aB => exact (by repeat (first | (with_reducible first | exact HB.out | apply below_alloc | apply pw_below_drewN | apply below_drew1 | refine below_set ?_ GE189.out | refine below_set ?_ GE201.out | refine below_set ?_ GE202.out) | exact HB.out)))
                                      (case aF => exact (fun k_ hk => ⟨(.inr (Nat.le_trans (below_size (by repeat (first | (with_reducible first | exact HB.out | apply below_alloc | apply pw_below_drewN | apply below_drew1 | refine below_set ?_ GE189.out | refine below_set ?_ GE201.out | refine below_set ?_ GE202.out) | exact HB.out))) hk)), Kd.fresh' (Kd.N_lt (by (with_reducible repeat (first | apply Kd.N_alloc | apply Kd.N_drewN | apply Kd.N_drew)); exact HO187.out)) k_ hk, Kd.fresh' (Kd.N_lt (by (with_reducible repeat (first | apply Kd.N_alloc | apply Kd.N_drewN | apply Kd.N_drew)); exact HO193.out)) k_ hk, Kd.fresh' (Kd.R_lt (by (with_reducible repeat (first | apply Kd.R_alloc | apply Kd.R_drewN | apply Kd.R_drew)); exact HO198.out)) k_ hk, Kd.freshB (g := gb189) (o := .cells #[.slice Ao17 t185.length co17, .int .i64 t188] 28 (0, 0)) (by (with_reducible repeat (first | refine blk_drewN ?_ _ | refine blk_drew ?_ | refine blk_alloc ?_ _)); exact BK189.out) k_ hk, Kd.freshB (g := gb201) (o := .cells #[.slice Ao41 t191.length co41, .int .i64 t194] 28 (0, 0)) (by (with_reducible repeat (first | refine blk_drewN ?_ _ | refine blk_drew ?_ | refine blk_alloc ?_ _)); exact BK201.out) k_ hk, Kd.freshB (g := gb202) (o := .cells #[.int .i64 t195, .slice Ao47 t196.length co47, .bool t199] 26 (0, 0)) (by (with_reducible repeat (first | refine blk_drewN ?_ _ | refine blk_drew ?_ | refine blk_alloc ?_ _)); exact BK202.out) k_ hk⟩))
                                      (case aO => exact (by (with_reducible repeat (first | apply Kd.N_alloc | apply Kd.N_drewN | apply Kd.N_drew)); exact HO205.out))
                                      (case aS => exact (below_size (by repeat (first | (with_reducible first | exact HB.out | apply below_alloc | apply pw_below_drewN | apply below_drew1 | refine below_set ?_ GE189.out | refine below_set ?_ GE201.out | refine below_set ?_ GE202.out) | exact HB.out))))
                                      (case aL => have := LMc26.out; omega)
                                      intro v212 w54 ho hb hg hat
                                      rw [← Ny211.out] at ho
                                      have n0_ := Aside0.mk (Kd.V_afterv (ok := (fun k_ => (P0_ k_ ∨ w.heap.size ≤ k_) ∧ some k_ ≠ (.slice Ao17 t185.length co17 : Value).ownBlock ∧ some k_ ≠ (.slice Ao41 t191.length co41 : Value).ownBlock ∧ some k_ ≠ (.slice Ao47 t196.length co47 : Value).ownBlock ∧ k_ ≠ gb189 ∧ k_ ≠ gb201 ∧ k_ ≠ gb202)) (by (with_reducible repeat (first | apply Kd.V_alloc | apply Kd.V_drewN | apply Kd.V_drew)); exact HO_0.out) hg hat)
                                      have n1_ := Aside0.mk (Kd.N_afterv (ok := (fun k_ => (P0_ k_ ∨ w.heap.size ≤ k_) ∧ some k_ ≠ (.slice Ao41 t191.length co41 : Value).ownBlock ∧ some k_ ≠ (.slice Ao47 t196.length co47 : Value).ownBlock ∧ k_ ≠ gb189 ∧ k_ ≠ gb201 ∧ k_ ≠ gb202)) (by (with_reducible repeat (first | apply Kd.N_alloc | apply Kd.N_drewN | apply Kd.N_drew)); exact HO187.out) hg hat)
                                      have n2_ := Aside0.mk (blk_grown (g := gb189) (o := .cells #[.slice Ao17 t185.length co17, .int .i64 t188] 28 (0, 0)) (by (with_reducible repeat (first | refine blk_drewN ?_ _ | refine blk_drew ?_ | refine blk_alloc ?_ _)); exact BK189.out) hg (Kd.N_ne HO205.out BK189.out (by decide)))
                                      have n3_ := Aside0.mk (Kd.N_afterv (ok := (fun k_ => (P0_ k_ ∨ w.heap.size ≤ k_) ∧ some k_ ≠ (.slice Ao17 t185.length co17 : Value).ownBlock ∧ some k_ ≠ (.slice Ao47 t196.length co47 : Value).ownBlock ∧ k_ ≠ gb189 ∧ k_ ≠ gb201 ∧ k_ ≠ gb202)) (by (with_reducible repeat (first | apply Kd.N_alloc | apply Kd.N_drewN | apply Kd.N_drew)); exact HO193.out) hg hat)
                                      have n4_ := Aside0.mk (Kd.R_over' (by (with_reducible repeat (first | apply Kd.R_alloc | apply Kd.R_drewN | apply Kd.R_drew)); exact HO198.out) (Kd.N_typed (by (with_reducible repeat (first | apply Kd.N_alloc | apply Kd.N_drewN | apply Kd.N_drew)); exact HO205.out)) (by decide) hg)
                                      have n5_ := Aside0.mk (blk_grown (g := gb201) (o := .cells #[.slice Ao41 t191.length co41, .int .i64 t194] 28 (0, 0)) (by (with_reducible repeat (first | refine blk_drewN ?_ _ | refine blk_drew ?_ | refine blk_alloc ?_ _)); exact BK201.out) hg (Kd.N_ne HO205.out BK201.out (by decide)))
                                      have n6_ := Aside0.mk (blk_grown (g := gb202) (o := .cells #[.int .i64 t195, .slice Ao47 t196.length co47, .bool t199] 26 (0, 0)) (by (with_reducible repeat (first | refine blk_drewN ?_ _ | refine blk_drew ?_ | refine blk_alloc ?_ _)); exact BK202.out) hg (Kd.N_away HO205.out (fun _ hk => hk.2.2.2.2.2.2)))
                                      have n7_ := Aside0.mk (Kd.V_afterv (ok := (fun k_ => (P0_ k_ ∨ w.heap.size ≤ k_) ∧ some k_ ≠ (.slice Ao17 t185.length co17 : Value).ownBlock ∧ some k_ ≠ (.slice Ao41 t191.length co41 : Value).ownBlock ∧ some k_ ≠ (.slice Ao47 t196.length co47 : Value).ownBlock ∧ k_ ≠ gb189 ∧ k_ ≠ gb201 ∧ k_ ≠ gb202)) (by (with_reducible repeat (first | apply Kd.V_alloc | apply Kd.V_drewN | apply Kd.V_drew)); exact HO210.out) hg hat)
                                      have n8_ := Aside0.mk (Kd.V_afterv (ok := (fun k_ => (P0_ k_ ∨ w.heap.size ≤ k_) ∧ some k_ ≠ (.slice Ao17 t185.length co17 : Value).ownBlock ∧ some k_ ≠ (.slice Ao41 t191.length co41 : Value).ownBlock ∧ some k_ ≠ (.slice Ao47 t196.length co47 : Value).ownBlock ∧ k_ ≠ gb189 ∧ k_ ≠ gb201 ∧ k_ ≠ gb202)) (by (with_reducible repeat (first | apply Kd.V_alloc | apply Kd.V_drewN | apply Kd.V_drew)); exact HO218.out) hg hat)
                                      have n9_ := Aside0.mk (hb)
                                      have n10_ := Aside0.mk (ho)
                                      clear HO_0
                                      clear HO187
                                      clear BK189
                                      clear HO193
                                      clear HO198
                                      clear BK201
                                      clear BK202
                                      clear HO210
                                      clear HO218
                                      clear HB
                                      clear HO205
                                      have HO_0 := n0_
                                      have HO187 := n1_
                                      have BK189 := n2_
                                      have HO193 := n3_
                                      have HO198 := n4_
                                      have BK201 := n5_
                                      have BK202 := n6_
                                      have HO210 := n7_
                                      have HO218 := n8_
                                      have HB := n9_
                                      have HO213 := n10_
                                      clear n0_ n1_ n2_ n3_ n4_ n5_ n6_ n7_ n8_ n9_ n10_
                                      clear ho hb hg hat
                                      refine hK.out _ _ trivial (fun hHeld => ?_)
                                      clear hK K
                                      refine norm_ (a' := ?_) ?_ ?_
                                      rotate_left
                                      · show Act.put _ (some 65) _ = _
                                        simp only [Act.put, List.setIfInBounds_toArray, List.set_cons_zero, List.set_cons_succ, i64_w, i32_w]
                                        rfl
                                      refine one_ (i := 9) (N := some 70) #[true, true, true, true, true, true, true, true, true, true, false] rfl rfl (one_of HT_.out (by kernel_rfl)) (by decide) (fun K hK => ?_)
                                      refine Kd.N_append_rows_step k26 (w0 := w) w.heap.size (by rfl) (.tmp 65) (.tmp 69) 22 26 (.agg #[(.int .i64 0), (.slice none 0 0), (.bool false)]) 40 rfl Try.underlying22 info26 rfl (by decide) (by omega) v212 y211 y214 _ _ _ (fun k_ => (P0_ k_ ∨ w.heap.size ≤ k_) ∧ some k_ ≠ (.slice Ao17 t185.length co17 : Value).ownBlock ∧ some k_ ≠ (.slice Ao41 t191.length co41 : Value).ownBlock ∧ some k_ ≠ (.slice Ao47 t196.length co47 : Value).ownBlock ∧ k_ ≠ gb189 ∧ k_ ≠ gb201 ∧ k_ ≠ gb202) (fun k_ => ((fun k_ => (P0_ k_ ∨ w.heap.size ≤ k_) ∧ some k_ ≠ (.slice Ao17 t185.length co17 : Value).ownBlock ∧ some k_ ≠ (.slice Ao41 t191.length co41 : Value).ownBlock ∧ some k_ ≠ (.slice Ao47 t196.length co47 : Value).ownBlock ∧ k_ ≠ gb189 ∧ k_ ≠ gb201 ∧ k_ ≠ gb202)) k_ ∧ some k_ ≠ (v212 : Value).ownBlock) rfl rfl ?aO ?aR (fun _ hk => hk) ?aF ?aB ?aS ?aL ?_
                                      (case aR => exact (by skip; exact Kd.V_F (Kd.V_mono (ok' := (fun k_ => ((fun k_ => (P0_ k_ ∨ w.heap.size ≤ k_) ∧ some k_ ≠ (.slice Ao17 t185.length co17 : Value).ownBlock ∧ some k_ ≠ (.slice Ao41 t191.length co41 : Value).ownBlock ∧ some k_ ≠ (.slice Ao47 t196.length co47 : Value).ownBlock ∧ k_ ≠ gb189 ∧ k_ ≠ gb201 ∧ k_ ≠ gb202)) k_ ∧ some k_ ≠ (v212 : Value).ownBlock)) (HO218.out) (fun k_ hk => ⟨⟨hk.1.1, ⟨hk.1.2.1, ⟨hk.1.2.2.1, ⟨hk.1.2.2.2.1, ⟨hk.1.2.2.2.2.1, ⟨hk.1.2.2.2.2.2.1, hk.1.2.2.2.2.2.2⟩⟩⟩⟩⟩⟩, hk.2⟩))))
                                      (case aB => exact (by repeat (first | (with_reducible first | exact HB.out | apply below_alloc | apply pw_below_drewN | apply below_drew1 | refine below_set ?_ GE189.out | refine below_set ?_ GE201.out | refine below_set ?_ GE202.out) | exact HB.out)))
                                      (case aF => exact (fun k_ hk => ⟨(.inr (Nat.le_trans (below_size (by repeat (first | (with_reducible first | exact HB.out | apply below_alloc | apply pw_below_drewN | apply below_drew1 | refine below_set ?_ GE189.out | refine below_set ?_ GE201.out | refine below_set ?_ GE202.out) | exact HB.out))) hk)), Kd.fresh' (Kd.N_lt (by (with_reducible repeat (first | apply Kd.N_alloc | apply Kd.N_drewN | apply Kd.N_drew)); exact HO187.out)) k_ hk, Kd.fresh' (Kd.N_lt (by (with_reducible repeat (first | apply Kd.N_alloc | apply Kd.N_drewN | apply Kd.N_drew)); exact HO193.out)) k_ hk, Kd.fresh' (Kd.R_lt (by (with_reducible repeat (first | apply Kd.R_alloc | apply Kd.R_drewN | apply Kd.R_drew)); exact HO198.out)) k_ hk, Kd.freshB (g := gb189) (o := .cells #[.slice Ao17 t185.length co17, .int .i64 t188] 28 (0, 0)) (by (with_reducible repeat (first | refine blk_drewN ?_ _ | refine blk_drew ?_ | refine blk_alloc ?_ _)); exact BK189.out) k_ hk, Kd.freshB (g := gb201) (o := .cells #[.slice Ao41 t191.length co41, .int .i64 t194] 28 (0, 0)) (by (with_reducible repeat (first | refine blk_drewN ?_ _ | refine blk_drew ?_ | refine blk_alloc ?_ _)); exact BK201.out) k_ hk, Kd.freshB (g := gb202) (o := .cells #[.int .i64 t195, .slice Ao47 t196.length co47, .bool t199] 26 (0, 0)) (by (with_reducible repeat (first | refine blk_drewN ?_ _ | refine blk_drew ?_ | refine blk_alloc ?_ _)); exact BK202.out) k_ hk⟩))
                                      (case aO => exact (by (with_reducible repeat (first | apply Kd.N_alloc | apply Kd.N_drewN | apply Kd.N_drew)); exact HO213.out))
                                      (case aS => exact (below_size (by repeat (first | (with_reducible first | exact HB.out | apply below_alloc | apply pw_below_drewN | apply below_drew1 | refine below_set ?_ GE189.out | refine below_set ?_ GE201.out | refine below_set ?_ GE202.out) | exact HB.out))))
                                      (case aL => have := LMc30.out; omega)
                                      intro v220 w55 ho hb hg hat
                                      rw [← Ny219.out] at ho
                                      have n0_ := Aside0.mk (Kd.V_afterv (ok := (fun k_ => (P0_ k_ ∨ w.heap.size ≤ k_) ∧ some k_ ≠ (.slice Ao17 t185.length co17 : Value).ownBlock ∧ some k_ ≠ (.slice Ao41 t191.length co41 : Value).ownBlock ∧ some k_ ≠ (.slice Ao47 t196.length co47 : Value).ownBlock ∧ k_ ≠ gb189 ∧ k_ ≠ gb201 ∧ k_ ≠ gb202)) (by (with_reducible repeat (first | apply Kd.V_alloc | apply Kd.V_drewN | apply Kd.V_drew)); exact HO_0.out) hg hat)
                                      have n1_ := Aside0.mk (Kd.N_afterv (ok := (fun k_ => (P0_ k_ ∨ w.heap.size ≤ k_) ∧ some k_ ≠ (.slice Ao41 t191.length co41 : Value).ownBlock ∧ some k_ ≠ (.slice Ao47 t196.length co47 : Value).ownBlock ∧ k_ ≠ gb189 ∧ k_ ≠ gb201 ∧ k_ ≠ gb202)) (by (with_reducible repeat (first | apply Kd.N_alloc | apply Kd.N_drewN | apply Kd.N_drew)); exact HO187.out) hg hat)
                                      have n2_ := Aside0.mk (blk_grown (g := gb189) (o := .cells #[.slice Ao17 t185.length co17, .int .i64 t188] 28 (0, 0)) (by (with_reducible repeat (first | refine blk_drewN ?_ _ | refine blk_drew ?_ | refine blk_alloc ?_ _)); exact BK189.out) hg (Kd.N_ne HO213.out BK189.out (by decide)))
                                      have n3_ := Aside0.mk (Kd.N_afterv (ok := (fun k_ => (P0_ k_ ∨ w.heap.size ≤ k_) ∧ some k_ ≠ (.slice Ao17 t185.length co17 : Value).ownBlock ∧ some k_ ≠ (.slice Ao47 t196.length co47 : Value).ownBlock ∧ k_ ≠ gb189 ∧ k_ ≠ gb201 ∧ k_ ≠ gb202)) (by (with_reducible repeat (first | apply Kd.N_alloc | apply Kd.N_drewN | apply Kd.N_drew)); exact HO193.out) hg hat)
                                      have n4_ := Aside0.mk (Kd.R_over' (by (with_reducible repeat (first | apply Kd.R_alloc | apply Kd.R_drewN | apply Kd.R_drew)); exact HO198.out) (Kd.N_typed (by (with_reducible repeat (first | apply Kd.N_alloc | apply Kd.N_drewN | apply Kd.N_drew)); exact HO213.out)) (by decide) hg)
                                      have n5_ := Aside0.mk (blk_grown (g := gb201) (o := .cells #[.slice Ao41 t191.length co41, .int .i64 t194] 28 (0, 0)) (by (with_reducible repeat (first | refine blk_drewN ?_ _ | refine blk_drew ?_ | refine blk_alloc ?_ _)); exact BK201.out) hg (Kd.N_ne HO213.out BK201.out (by decide)))
                                      have n6_ := Aside0.mk (blk_grown (g := gb202) (o := .cells #[.int .i64 t195, .slice Ao47 t196.length co47, .bool t199] 26 (0, 0)) (by (with_reducible repeat (first | refine blk_drewN ?_ _ | refine blk_drew ?_ | refine blk_alloc ?_ _)); exact BK202.out) hg (Kd.N_away HO213.out (fun _ hk => hk.2.2.2.2.2.2)))
                                      have n7_ := Aside0.mk (Kd.V_afterv (ok := (fun k_ => (P0_ k_ ∨ w.heap.size ≤ k_) ∧ some k_ ≠ (.slice Ao17 t185.length co17 : Value).ownBlock ∧ some k_ ≠ (.slice Ao41 t191.length co41 : Value).ownBlock ∧ some k_ ≠ (.slice Ao47 t196.length co47 : Value).ownBlock ∧ k_ ≠ gb189 ∧ k_ ≠ gb201 ∧ k_ ≠ gb202)) (by (with_reducible repeat (first | apply Kd.V_alloc | apply Kd.V_drewN | apply Kd.V_drew)); exact HO210.out) hg hat)
                                      have n8_ := Aside0.mk (Kd.V_afterv (ok := (fun k_ => (P0_ k_ ∨ w.heap.size ≤ k_) ∧ some k_ ≠ (.slice Ao17 t185.length co17 : Value).ownBlock ∧ some k_ ≠ (.slice Ao41 t191.length co41 : Value).ownBlock ∧ some k_ ≠ (.slice Ao47 t196.length co47 : Value).ownBlock ∧ k_ ≠ gb189 ∧ k_ ≠ gb201 ∧ k_ ≠ gb202)) (by (with_reducible repeat (first | apply Kd.V_alloc | apply Kd.V_drewN | apply Kd.V_drew)); exact HO218.out) hg hat)
                                      have n9_ := Aside0.mk (hb)
                                      have n10_ := Aside0.mk (ho)
                                      clear HO_0
                                      clear HO187
                                      clear BK189
                                      clear HO193
                                      clear HO198
                                      clear BK201
                                      clear BK202
                                      clear HO210
                                      clear HO218
                                      clear HB
                                      clear HO213
                                      have HO_0 := n0_
                                      have HO187 := n1_
                                      have BK189 := n2_
                                      have HO193 := n3_
                                      have HO198 := n4_
                                      have BK201 := n5_
                                      have BK202 := n6_
                                      have HO210 := n7_
                                      have HO218 := n8_
                                      have HB := n9_
                                      have HO221 := n10_
                                      clear n0_ n1_ n2_ n3_ n4_ n5_ n6_ n7_ n8_ n9_ n10_
                                      clear ho hb hg hat
                                      refine hK.out _ _ trivial (fun hHeld => ?_)
                                      clear hK K
                                      refine norm_ (a' := ?_) ?_ ?_
                                      rotate_left
                                      · show Act.put _ (some 70) _ = _
                                        simp only [Act.put, List.setIfInBounds_toArray, List.set_cons_zero, List.set_cons_succ, i64_w, i32_w]
                                        rfl
                                      refine pure_ (i := 10) (N := some 10) (v := ?_) (a' := ?_) #[true, true, true, true, true, true, true, true, true, true, true] rfl rfl (any_of HT_.out (by kernel_rfl)) (fun _ _ _ h => h) (Or.inl ⟨by rfl, ?_⟩) ?_ ?_
                                      rotate_left
                                      · intro w'
                                        go_simp
                                        with_reducible rfl
                                      rotate_left
                                      · simp only [Act.put, List.setIfInBounds_toArray, List.set_cons_zero, List.set_cons_succ, i64_w, i32_w]
                                        rfl
                                      refine done_ (done_of HT_.out (by kernel_rfl)) ?_
                                      try go_wp2
                                      have n0_ := Aside0.mk (Kd.V_drew HO_0.out)
                                      have n1_ := Aside0.mk (Kd.N_drew HO187.out)
                                      have n2_ := Aside0.mk (Kd.N_drew HO193.out)
                                      have n3_ := Aside0.mk (Kd.R_drew HO198.out)
                                      have n4_ := Aside0.mk (Kd.V_drew HO210.out)
                                      have n5_ := Aside0.mk (Kd.V_drew HO218.out)
                                      have n6_ := Aside0.mk (Kd.N_drew HO221.out)
                                      have n7_ := Aside0.mk (blk_drew BK189.out)
                                      have n8_ := Aside0.mk (blk_drew BK201.out)
                                      have n9_ := Aside0.mk (blk_drew BK202.out)
                                      have n10_ := Aside0.mk (below_drew1 HB.out)
                                      clear HO_0
                                      clear HO187
                                      clear HO193
                                      clear HO198
                                      clear HO210
                                      clear HO218
                                      clear HO221
                                      clear BK189
                                      clear BK201
                                      clear BK202
                                      clear HB
                                      have HO_0 := n0_
                                      have HO187 := n1_
                                      have HO193 := n2_
                                      have HO198 := n3_
                                      have HO210 := n4_
                                      have HO218 := n5_
                                      have HO221 := n6_
                                      have BK189 := n7_
                                      have BK201 := n8_
                                      have BK202 := n9_
                                      have HB := n10_
                                      clear n0_ n1_ n2_ n3_ n4_ n5_ n6_ n7_ n8_ n9_ n10_
                                      have p222 : 0 ≤ ((ji23) : Int) := of_decide_eq_true (by first | (with_reducible assumption) | assumption)
                                      have q222 : (ji23) < (l0.length : Int) := of_decide_eq_true (by first | (with_reducible assumption) | assumption)
                                      obtain ⟨ad222, A222_1, c222_1, e222, hx222_0, hx222_1, hx222_2, hl222_1, hi222_1⟩ := at_T26 (Kd.V_reads' HO_0.out).2.2 (ji23) p222 q222
                                      cases e222
                                      obtain ⟨ce222, hce222, hMe222, hcc222⟩ := Kd.V_get HO_0.out z26 (ji23) p222 (by first | exact q222 | exact of_decide_eq_true (by first | (with_reducible assumption) | assumption) | (have e_ := (Kd.V_reads' HO_0.out).1; omega))
                                      obtain ⟨ua222_1, uc222_1, rfl, ul222_1, ge222_1⟩ := k26_openF hMe222
                                      have hv222_1 := hcc222 1 _ rfl
                                      rw [add_field _ _ 1 (by omega)] at hv222_1
                                      replace hv222_1 := Option.some.inj (hv222_1.symm.trans hx222_1)
                                      injection hv222_1 with hva_ hvn_ hvc_
                                      rw [hva_] at ge222_1
                                      rw [hvc_] at ul222_1
                                      have HL222_1 := Aside0.mk (show Kd.V (Kd.int .u8) 5 _ w.heap.size _ _ ((rd_T26 l0 (ji23)).f1) from Kd.V_mk ul222_1 ge222_1)
                                      clear hva_ hvn_ hvc_ ge222_1 ul222_1
                                      clear hcc222 hce222
                                      have HR222_1 := Aside0.mk hi222_1
                                      have HC222_1 := Aside0.mk hl222_1
                                      clear hi222_1 hl222_1
                                      replace p222 := eq_true p222
                                      replace q222 := eq_true q222
                                      refine start_ (n := 18) (S := fun w' => w'.cell? ⟨gb202, 0, none⟩ = some (.int .i64 t195) ∧ w'.cell? ⟨gb202, 1, none⟩ = some (.slice Ao47 t196.length co47) ∧ w'.cell? ⟨gb202, 2, none⟩ = some (.bool t199) ∧ w'.cell? ⟨gb201, 0, none⟩ = some (.slice Ao41 t191.length co41) ∧ w'.cell? ⟨gb201, 1, none⟩ = some (.int .i64 t194) ∧ w'.cell? (ad222.add (((ji23)).toNat * 3)) = some (.int .i64 ((rd_T26 l0 (ji23)).f0)) ∧ w'.cell? ⟨(ad222.add (((ji23)).toNat * 3)).block, (ad222.add (((ji23)).toNat * 3)).off + 1, none⟩ = some (.slice A222_1 ((rd_T26 l0 (ji23)).f1).length c222_1) ∧ w'.cell? ⟨(ad222.add (((ji23)).toNat * 3)).block, (ad222.add (((ji23)).toNat * 3)).off + 2, none⟩ = some (.bool ((rd_T26 l0 (ji23)).f2))) (ds := []) #[false, false, false, false, false, false, false, false, false, false, false, false, false, false, false, false, false, false] (by kernel_rfl) rfl rfl ⟨(blk_cell BK202.out 0).trans rfl, (blk_cell BK202.out 1).trans rfl, (blk_cell BK202.out 2).trans rfl, (blk_cell BK201.out 0).trans rfl, (blk_cell BK201.out 1).trans rfl, hx222_0, hx222_1, hx222_2⟩ (fun hHeld => ?_); refine with_tabW garlandlaw08_BagFirst.tab15 garlandlaw08_BagFirst.bits15 (fun HT_ HW_ => ?_)
                                      generalize w55.drew = w56 at HO_0 HO187 HO193 HO198 HO210 HO218 HO221 BK189 BK201 BK202 HB HL222_1 HR222_1 hx222_0 hx222_1 hx222_2 hHeld ⊢
                                      refine pure_ (i := 0) (N := some 71) (v := ?_) (a' := ?_) #[true, false, false, false, false, false, false, false, false, false, false, false, false, false, false, false, false, false] rfl rfl (any_of HT_.out (by kernel_rfl)) (fun _ _ _ h => h) (Or.inl ⟨by rfl, ?_⟩) ?_ ?_
                                      rotate_left
                                      · intro w'
                                        go_simp
                                        with_reducible rfl
                                      rotate_left
                                      · simp only [Act.put, List.setIfInBounds_toArray, List.set_cons_zero, List.set_cons_succ, i64_w, i32_w]
                                        rfl
                                      refine pure_ (i := 1) (N := some 72) (v := ?_) (a' := ?_) #[true, true, false, false, false, false, false, false, false, false, false, false, false, false, false, false, false, false] rfl rfl (any_of HT_.out (by kernel_rfl)) (fun _ _ _ h => h) (Or.inl ⟨by rfl, ?_⟩) ?_ ?_
                                      rotate_left
                                      · intro w'
                                        go_simp
                                        with_reducible rfl
                                      rotate_left
                                      · simp only [Act.put, List.setIfInBounds_toArray, List.set_cons_zero, List.set_cons_succ, i64_w, i32_w]
                                        rfl
                                      refine pure_ (i := 2) (N := some 73) (v := ?_) (a' := ?_) #[true, true, true, false, false, false, false, false, false, false, false, false, false, false, false, false, false, false] rfl rfl (any_of HT_.out (by kernel_rfl)) (fun _ _ _ h => h) (Or.inl ⟨by rfl, ?_⟩) ?_ ?_
                                      rotate_left
                                      · intro w'
                                        go_simp
                                        with_reducible rfl
                                      rotate_left
                                      · simp only [Act.put, List.setIfInBounds_toArray, List.set_cons_zero, List.set_cons_succ, i64_w, i32_w]
                                        rfl
                                      refine pure_ (i := 4) (N := some 75) (v := ?_) (a' := ?_) #[true, true, true, false, true, false, false, false, false, false, false, false, false, false, false, false, false, false] rfl rfl (any_of HT_.out (by kernel_rfl)) (fun _ _ _ h => h) (Or.inl ⟨by rfl, ?_⟩) ?_ ?_
                                      rotate_left
                                      · intro w'
                                        go_simp
                                        with_reducible rfl
                                      rotate_left
                                      · simp only [Act.put, List.setIfInBounds_toArray, List.set_cons_zero, List.set_cons_succ, i64_w, i32_w]
                                        rfl
                                      refine pure_ (i := 5) (N := some 76) (v := ?_) (a' := ?_) #[true, true, true, false, true, true, false, false, false, false, false, false, false, false, false, false, false, false] rfl rfl (any_of HT_.out (by kernel_rfl)) (fun _ _ _ h => h) (Or.inl ⟨by rfl, ?_⟩) ?_ ?_
                                      rotate_left
                                      · intro w'
                                        go_simp
                                        with_reducible rfl
                                      rotate_left
                                      · simp only [Act.put, List.setIfInBounds_toArray, List.set_cons_zero, List.set_cons_succ, i64_w, i32_w]
                                        rfl
                                      refine pure_ (i := 6) (N := some 77) (v := ?_) (a' := ?_) #[true, true, true, false, true, true, true, false, false, false, false, false, false, false, false, false, false, false] rfl rfl (any_of HT_.out (by kernel_rfl)) (fun _ _ _ h => h) (Or.inl ⟨by rfl, ?_⟩) ?_ ?_
                                      rotate_left
                                      · intro w'
                                        go_simp
                                        with_reducible rfl
                                      rotate_left
                                      · simp only [Act.put, List.setIfInBounds_toArray, List.set_cons_zero, List.set_cons_succ, i64_w, i32_w]
                                        rfl
                                      refine take_ (i := 3) (N := some 74) (v := ?_) (a' := ?_) #[true, true, true, true, true, true, true, false, false, false, false, false, false, false, false, false, false, false] rfl rfl (take_ofW HT_.out HW_.out (by kernel_rfl)) (fun _ _ _ h => h) (Or.inl ⟨by rfl, ?_⟩) hHeld ?_ ?_
                                      rotate_left
                                      · rintro w' ⟨s0, s1, s2, s3, s4, s5, s6, s7⟩
                                        go_simp
                                        with_reducible rfl
                                      rotate_left
                                      · simp only [Act.put, List.setIfInBounds_toArray, List.set_cons_zero, List.set_cons_succ, i64_w, i32_w]
                                        rfl
                                      refine take_ (i := 7) (N := some 78) (v := ?_) (a' := ?_) #[true, true, true, true, true, true, true, true, false, false, false, false, false, false, false, false, false, false] rfl rfl (take_ofW HT_.out HW_.out (by kernel_rfl)) (fun _ _ _ h => h) (Or.inl ⟨by rfl, ?_⟩) hHeld ?_ ?_
                                      rotate_left
                                      · rintro w' ⟨s0, s1, s2, s3, s4, s5, s6, s7⟩
                                        go_simp
                                        with_reducible rfl
                                      rotate_left
                                      · simp only [Act.put, List.setIfInBounds_toArray, List.set_cons_zero, List.set_cons_succ, i64_w, i32_w]
                                        rfl
                                      refine one_ (i := 8) (N := some 79) #[true, true, true, true, true, true, true, true, true, false, false, false, false, false, false, false, false, false] rfl rfl (one_of HT_.out (by kernel_rfl)) (by decide) (fun K hK => ?_)
                                      refine goes_ Try.func10 (by kernel_rfl) rfl #[.agg #[.int .i64 t195, .slice Ao47 t196.length co47, .bool t199], .agg #[.int .i64 ((rd_T26 l0 (ji23)).f0), .slice A222_1 ((rd_T26 l0 (ji23)).f1).length c222_1, .bool ((rd_T26 l0 (ji23)).f2)]] (by rfl) rfl rfl (by (try simp only [List.map_toArray, List.map_cons, List.map_nil]); first | done | (simp only [hji23]; rfl) | rfl | (simp only [List.length_drop, List.length_take]; rfl)) ?_
                                      with_reducible refine (garlandref08_Gram.calls t195 _ _ t196 t199 ((rd_T26 l0 (ji23)).f0) _ _ ((rd_T26 l0 (ji23)).f1) ((rd_T26 l0 (ji23)).f2) true _ ?side1 ?side2 ?side3 ?side4 A33.out).mono ?_
                                      (case side1 => repeat (first | exact (Kd.R_reads' HO198.out).2.2 | (with_reducible refine Kd.C_alloc ?_ _) | (with_reducible refine Kd.C_drewN ?_ _) | (with_reducible refine Kd.C_drew ?_)))
                                      (case side2 => exact (Kd.R_reads' HO198.out).2.1)
                                      (case side3 => repeat (first | exact (by repeat (first | (with_reducible exact HR222_1.out) | (with_reducible refine Kd.C_alloc ?_ _) | (with_reducible refine Kd.C_drewN ?_ _) | (with_reducible refine Kd.C_drew ?_) | exact HR222_1.out)) | (with_reducible refine Kd.C_alloc ?_ _) | (with_reducible refine Kd.C_drewN ?_ _) | (with_reducible refine Kd.C_drew ?_)))
                                      (case side4 => exact HC222_1.out)
                                      rintro e w57 ⟨rfl, hb⟩
                                      have HS5_ := (hb.cell (World.block_lt_of_cell? _ _ (hHeld.2.2.2.2.2.1))).trans (hHeld.2.2.2.2.2.1)
                                      have HS6_ := (hb.cell (World.block_lt_of_cell? _ _ (hHeld.2.2.2.2.2.2.1))).trans (hHeld.2.2.2.2.2.2.1)
                                      have HS7_ := (hb.cell (World.block_lt_of_cell? _ _ (hHeld.2.2.2.2.2.2.2))).trans (hHeld.2.2.2.2.2.2.2)
                                      refine ⟨_, rfl, ?_⟩
                                      have n0_ := Aside0.mk (Kd.V_below (by (with_reducible repeat (first | apply Kd.V_alloc | apply Kd.V_drewN | apply Kd.V_drew)); exact HO_0.out) hb)
                                      have n1_ := Aside0.mk (Kd.N_below (by (with_reducible repeat (first | apply Kd.N_alloc | apply Kd.N_drewN | apply Kd.N_drew)); exact HO187.out) hb)
                                      have n2_ := Aside0.mk (Kd.N_below (by (with_reducible repeat (first | apply Kd.N_alloc | apply Kd.N_drewN | apply Kd.N_drew)); exact HO193.out) hb)
                                      have n3_ := Aside0.mk (Kd.R_below (by (with_reducible repeat (first | apply Kd.R_alloc | apply Kd.R_drewN | apply Kd.R_drew)); exact HO198.out) hb)
                                      have n4_ := Aside0.mk (Kd.V_below (by (with_reducible repeat (first | apply Kd.V_alloc | apply Kd.V_drewN | apply Kd.V_drew)); exact HO210.out) hb)
                                      have n5_ := Aside0.mk (Kd.V_below (by (with_reducible repeat (first | apply Kd.V_alloc | apply Kd.V_drewN | apply Kd.V_drew)); exact HO218.out) hb)
                                      have n6_ := Aside0.mk (Kd.N_below (by (with_reducible repeat (first | apply Kd.N_alloc | apply Kd.N_drewN | apply Kd.N_drew)); exact HO221.out) hb)
                                      have n7_ := Aside0.mk (Kd.V_below (by (with_reducible repeat (first | apply Kd.V_alloc | apply Kd.V_drewN | apply Kd.V_drew)); exact HL222_1.out) hb)
                                      have n8_ := Aside0.mk (blk_below (g := gb189) (o := .cells #[.slice Ao17 t185.length co17, .int .i64 t188] 28 (0, 0)) (by (with_reducible repeat (first | refine blk_drewN ?_ _ | refine blk_drew ?_ | refine blk_alloc ?_ _)); exact BK189.out) hb)
                                      have n9_ := Aside0.mk (blk_below (g := gb201) (o := .cells #[.slice Ao41 t191.length co41, .int .i64 t194] 28 (0, 0)) (by (with_reducible repeat (first | refine blk_drewN ?_ _ | refine blk_drew ?_ | refine blk_alloc ?_ _)); exact BK201.out) hb)
                                      have n10_ := Aside0.mk (blk_below (g := gb202) (o := .cells #[.int .i64 t195, .slice Ao47 t196.length co47, .bool t199] 26 (0, 0)) (by (with_reducible repeat (first | refine blk_drewN ?_ _ | refine blk_drew ?_ | refine blk_alloc ?_ _)); exact BK202.out) hb)
                                      have n11_ := Aside0.mk (Kd.C_below (by repeat (first | (with_reducible exact HR222_1.out) | (with_reducible refine Kd.C_alloc ?_ _) | (with_reducible refine Kd.C_drewN ?_ _) | (with_reducible refine Kd.C_drew ?_) | exact HR222_1.out)) hb)
                                      have n12_ := Aside0.mk (below_step (by repeat (first | (with_reducible first | exact HB.out | apply below_alloc | apply pw_below_drewN | apply below_drew1 | refine below_set ?_ GE189.out | refine below_set ?_ GE201.out | refine below_set ?_ GE202.out) | exact HB.out)) hb)
                                      clear HO_0
                                      clear HO187
                                      clear HO193
                                      clear HO198
                                      clear HO210
                                      clear HO218
                                      clear HO221
                                      clear HL222_1
                                      clear BK189
                                      clear BK201
                                      clear BK202
                                      clear HR222_1
                                      clear HB
                                      have HO_0 := n0_
                                      have HO187 := n1_
                                      have HO193 := n2_
                                      have HO198 := n3_
                                      have HO210 := n4_
                                      have HO218 := n5_
                                      have HO221 := n6_
                                      have HL222_1 := n7_
                                      have BK189 := n8_
                                      have BK201 := n9_
                                      have BK202 := n10_
                                      have HR222_1 := n11_
                                      have HB := n12_
                                      clear n0_ n1_ n2_ n3_ n4_ n5_ n6_ n7_ n8_ n9_ n10_ n11_ n12_
                                      (try clear hb)
                                      (try clear hb2)
                                      (try clear hk)
                                      (try clear hi)
                                      obtain ⟨Ao58, co58, eo58⟩ := Kd.N_slice HO221.out
                                      (first | subst eo58 | (injection eo58 with f1_ f2_ f3_; have f4_ := f1_.symm; have f5_ := f3_.symm; clear f1_ f2_ f3_; subst f4_; subst f5_))
                                      refine hK.out _ _ ⟨(blk_cell BK202.out 0).trans rfl, (blk_cell BK202.out 1).trans rfl, (blk_cell BK202.out 2).trans rfl, (blk_cell BK201.out 0).trans rfl, (blk_cell BK201.out 1).trans rfl, HS5_, HS6_, HS7_⟩ (fun hHeld => ?_)
                                      clear hK K
                                      refine norm_ (a' := ?_) ?_ ?_
                                      rotate_left
                                      · show Act.put _ (some 79) _ = _
                                        simp only [Act.put, List.setIfInBounds_toArray, List.set_cons_zero, List.set_cons_succ, i64_w, i32_w]
                                        rfl
                                      refine pure_ (i := 9) (N := some 80) (v := ?_) (a' := ?_) #[true, true, true, true, true, true, true, true, true, true, false, false, false, false, false, false, false, false] rfl rfl (any_of HT_.out (by kernel_rfl)) (fun _ _ _ h => h) (Or.inl ⟨by rfl, ?_⟩) ?_ ?_
                                      rotate_left
                                      · intro w'
                                        go_simp
                                        with_reducible rfl
                                      rotate_left
                                      · simp only [Act.put, List.setIfInBounds_toArray, List.set_cons_zero, List.set_cons_succ, i64_w, i32_w]
                                        rfl
                                      refine pure_ (i := 10) (N := some 81) (v := ?_) (a' := ?_) #[true, true, true, true, true, true, true, true, true, true, true, false, false, false, false, false, false, false] rfl rfl (any_of HT_.out (by kernel_rfl)) (fun _ _ _ h => h) (Or.inl ⟨by rfl, ?_⟩) ?_ ?_
                                      rotate_left
                                      · intro w'
                                        go_simp
                                        with_reducible rfl
                                      rotate_left
                                      · simp only [Act.put, List.setIfInBounds_toArray, List.set_cons_zero, List.set_cons_succ, i64_w, i32_w]
                                        rfl
                                      refine pure_ (i := 11) (N := some 82) (v := ?_) (a' := ?_) #[true, true, true, true, true, true, true, true, true, true, true, true, false, false, false, false, false, false] rfl rfl (any_of HT_.out (by kernel_rfl)) (fun _ _ _ h => h) (Or.inl ⟨by rfl, ?_⟩) ?_ ?_
                                      rotate_left
                                      · intro w'
                                        go_simp
                                        with_reducible rfl
                                      rotate_left
                                      · simp only [Act.put, List.setIfInBounds_toArray, List.set_cons_zero, List.set_cons_succ, i64_w, i32_w]
                                        rfl
                                      refine pure_ (i := 12) (N := some 83) (v := ?_) (a' := ?_) #[true, true, true, true, true, true, true, true, true, true, true, true, true, false, false, false, false, false] rfl rfl (any_of HT_.out (by kernel_rfl)) (fun _ _ _ h => h) (Or.inl ⟨by rfl, ?_⟩) ?_ ?_
                                      rotate_left
                                      · intro w'
                                        go_simp
                                        with_reducible rfl
                                      rotate_left
                                      · simp only [Act.put, List.setIfInBounds_toArray, List.set_cons_zero, List.set_cons_succ, i64_w, i32_w]
                                        rfl
                                      refine pure_ (i := 14) (N := some 85) (v := ?_) (a' := ?_) #[true, true, true, true, true, true, true, true, true, true, true, true, true, false, true, false, false, false] rfl rfl (any_of HT_.out (by kernel_rfl)) (fun _ _ _ h => h) (Or.inl ⟨by rfl, ?_⟩) ?_ ?_
                                      rotate_left
                                      · intro w'
                                        go_simp
                                        with_reducible rfl
                                      rotate_left
                                      · simp only [Act.put, List.setIfInBounds_toArray, List.set_cons_zero, List.set_cons_succ, i64_w, i32_w]
                                        rfl
                                      refine take_ (i := 13) (N := some 84) (v := ?_) (a' := ?_) #[true, true, true, true, true, true, true, true, true, true, true, true, true, true, true, false, false, false] rfl rfl (take_ofW HT_.out HW_.out (by kernel_rfl)) (fun _ _ _ h => h) (Or.inl ⟨by rfl, ?_⟩) hHeld ?_ ?_
                                      rotate_left
                                      · rintro w' ⟨s0, s1, s2, s3, s4, s5, s6, s7⟩
                                        go_simp
                                        with_reducible rfl
                                      rotate_left
                                      · simp only [Act.put, List.setIfInBounds_toArray, List.set_cons_zero, List.set_cons_succ, i64_w, i32_w]
                                        rfl
                                      refine one_ (i := 15) (N := some 86) #[true, true, true, true, true, true, true, true, true, true, true, true, true, true, true, true, false, false] rfl rfl (one_of HT_.out (by kernel_rfl)) (by decide) (fun K hK => ?_)
                                      refine goes_ Try.func8 (by kernel_rfl) rfl #[.slice Ao41 t191.length co41, .slice Ao58 y219.length co58] (by rfl) rfl rfl (by (try simp only [List.map_toArray, List.map_cons, List.map_nil]); first | done | rfl | (simp only [List.length_drop, List.length_take]; rfl)) ?_
                                      with_reducible refine (garlandref08_Grams.calls k1 _ _ t191 _ _ y219 true _ ?side1 ?side2 ?side3 ?side4 A35.out).mono ?_
                                      (case side1 => repeat (first | exact (Kd.N_reads' HO193.out).2.2 | (with_reducible refine Kd.C_alloc ?_ _) | (with_reducible refine Kd.C_drewN ?_ _) | (with_reducible refine Kd.C_drew ?_)))
                                      (case side2 => exact (Kd.N_reads' HO193.out).2.1)
                                      (case side3 => repeat (first | exact (Kd.N_reads' HO221.out).2.2 | (with_reducible refine Kd.C_alloc ?_ _) | (with_reducible refine Kd.C_drewN ?_ _) | (with_reducible refine Kd.C_drew ?_)))
                                      (case side4 => exact (Kd.N_reads' HO221.out).2.1)
                                      rintro e w59 ⟨rfl, hb⟩
                                      have HS5_ := (hb.cell (World.block_lt_of_cell? _ _ (hHeld.2.2.2.2.2.1))).trans (hHeld.2.2.2.2.2.1)
                                      have HS6_ := (hb.cell (World.block_lt_of_cell? _ _ (hHeld.2.2.2.2.2.2.1))).trans (hHeld.2.2.2.2.2.2.1)
                                      have HS7_ := (hb.cell (World.block_lt_of_cell? _ _ (hHeld.2.2.2.2.2.2.2))).trans (hHeld.2.2.2.2.2.2.2)
                                      refine ⟨_, rfl, ?_⟩
                                      have n0_ := Aside0.mk (Kd.V_below (by (with_reducible repeat (first | apply Kd.V_alloc | apply Kd.V_drewN | apply Kd.V_drew)); exact HO_0.out) hb)
                                      have n1_ := Aside0.mk (Kd.N_below (by (with_reducible repeat (first | apply Kd.N_alloc | apply Kd.N_drewN | apply Kd.N_drew)); exact HO187.out) hb)
                                      have n2_ := Aside0.mk (Kd.N_below (by (with_reducible repeat (first | apply Kd.N_alloc | apply Kd.N_drewN | apply Kd.N_drew)); exact HO193.out) hb)
                                      have n3_ := Aside0.mk (Kd.R_below (by (with_reducible repeat (first | apply Kd.R_alloc | apply Kd.R_drewN | apply Kd.R_drew)); exact HO198.out) hb)
                                      have n4_ := Aside0.mk (Kd.V_below (by (with_reducible repeat (first | apply Kd.V_alloc | apply Kd.V_drewN | apply Kd.V_drew)); exact HO210.out) hb)
                                      have n5_ := Aside0.mk (Kd.V_below (by (with_reducible repeat (first | apply Kd.V_alloc | apply Kd.V_drewN | apply Kd.V_drew)); exact HO218.out) hb)
                                      have n6_ := Aside0.mk (Kd.N_below (by (with_reducible repeat (first | apply Kd.N_alloc | apply Kd.N_drewN | apply Kd.N_drew)); exact HO221.out) hb)
                                      have n7_ := Aside0.mk (Kd.V_below (by (with_reducible repeat (first | apply Kd.V_alloc | apply Kd.V_drewN | apply Kd.V_drew)); exact HL222_1.out) hb)
                                      have n8_ := Aside0.mk (blk_below (g := gb189) (o := .cells #[.slice Ao17 t185.length co17, .int .i64 t188] 28 (0, 0)) (by (with_reducible repeat (first | refine blk_drewN ?_ _ | refine blk_drew ?_ | refine blk_alloc ?_ _)); exact BK189.out) hb)
                                      have n9_ := Aside0.mk (blk_below (g := gb201) (o := .cells #[.slice Ao41 t191.length co41, .int .i64 t194] 28 (0, 0)) (by (with_reducible repeat (first | refine blk_drewN ?_ _ | refine blk_drew ?_ | refine blk_alloc ?_ _)); exact BK201.out) hb)
                                      have n10_ := Aside0.mk (blk_below (g := gb202) (o := .cells #[.int .i64 t195, .slice Ao47 t196.length co47, .bool t199] 26 (0, 0)) (by (with_reducible repeat (first | refine blk_drewN ?_ _ | refine blk_drew ?_ | refine blk_alloc ?_ _)); exact BK202.out) hb)
                                      have n11_ := Aside0.mk (Kd.C_below (by repeat (first | (with_reducible exact HR222_1.out) | (with_reducible refine Kd.C_alloc ?_ _) | (with_reducible refine Kd.C_drewN ?_ _) | (with_reducible refine Kd.C_drew ?_) | exact HR222_1.out)) hb)
                                      have n12_ := Aside0.mk (below_step (by repeat (first | (with_reducible first | exact HB.out | apply below_alloc | apply pw_below_drewN | apply below_drew1 | refine below_set ?_ GE189.out | refine below_set ?_ GE201.out | refine below_set ?_ GE202.out) | exact HB.out)) hb)
                                      clear HO_0
                                      clear HO187
                                      clear HO193
                                      clear HO198
                                      clear HO210
                                      clear HO218
                                      clear HO221
                                      clear HL222_1
                                      clear BK189
                                      clear BK201
                                      clear BK202
                                      clear HR222_1
                                      clear HB
                                      have HO_0 := n0_
                                      have HO187 := n1_
                                      have HO193 := n2_
                                      have HO198 := n3_
                                      have HO210 := n4_
                                      have HO218 := n5_
                                      have HO221 := n6_
                                      have HL222_1 := n7_
                                      have BK189 := n8_
                                      have BK201 := n9_
                                      have BK202 := n10_
                                      have HR222_1 := n11_
                                      have HB := n12_
                                      clear n0_ n1_ n2_ n3_ n4_ n5_ n6_ n7_ n8_ n9_ n10_ n11_ n12_
                                      (try clear hb)
                                      (try clear hb2)
                                      (try clear hk)
                                      (try clear hi)
                                      refine hK.out _ _ ⟨(blk_cell BK202.out 0).trans rfl, (blk_cell BK202.out 1).trans rfl, (blk_cell BK202.out 2).trans rfl, (blk_cell BK201.out 0).trans rfl, (blk_cell BK201.out 1).trans rfl, HS5_, HS6_, HS7_⟩ (fun hHeld => ?_)
                                      clear hK K
                                      refine norm_ (a' := ?_) ?_ ?_
                                      rotate_left
                                      · show Act.put _ (some 86) _ = _
                                        simp only [Act.put, List.setIfInBounds_toArray, List.set_cons_zero, List.set_cons_succ, i64_w, i32_w]
                                        rfl
                                      refine pure_ (i := 16) (N := some 87) (v := ?_) (a' := ?_) #[true, true, true, true, true, true, true, true, true, true, true, true, true, true, true, true, true, false] rfl rfl (any_of HT_.out (by kernel_rfl)) (fun _ _ _ h => h) (Or.inl ⟨by rfl, ?_⟩) ?_ ?_
                                      rotate_left
                                      · intro w'
                                        go_simp
                                        with_reducible rfl
                                      rotate_left
                                      · simp only [Act.put, List.setIfInBounds_toArray, List.set_cons_zero, List.set_cons_succ, i64_w, i32_w]
                                        rfl
                                      refine pure_ (i := 17) (N := some 88) (v := ?_) (a' := ?_) #[true, true, true, true, true, true, true, true, true, true, true, true, true, true, true, true, true, true] rfl rfl (any_of HT_.out (by kernel_rfl)) (fun _ _ _ h => h) (Or.inl ⟨by rfl, ?_⟩) ?_ ?_
                                      rotate_left
                                      · intro w'
                                        go_simp
                                        with_reducible rfl
                                      rotate_left
                                      · simp only [Act.put, List.setIfInBounds_toArray, List.set_cons_zero, List.set_cons_succ, i64_w, i32_w]
                                        rfl
                                      refine done_ (done_of HT_.out (by kernel_rfl)) ?_
                                      try go_wp2
                                      go_meet
                                      case rel => exact ⟨_, H', ⟨by have := HK1.out; first | omega | exact Nat.le_refl _⟩, ⟨by (with_reducible repeat (first | apply Kd.V_alloc | apply Kd.V_drewN | apply Kd.V_drew)); exact Kd.V_mono HO_0.out (fun _ hk => ⟨hk.1.1, ⟨hk.1.2.1, hk.1.2.2.2.2.1⟩⟩)⟩, ⟨by (with_reducible repeat (first | apply Kd.N_alloc | apply Kd.N_drewN | apply Kd.N_drew)); exact Kd.N_mono HO187.out (fun _ hk => ⟨hk.1.1, hk.1.2.2.2.1⟩)⟩, ⟨by (with_reducible repeat (first | refine blk_drewN ?_ _ | refine blk_drew ?_ | refine blk_alloc ?_ _)); exact BK189.out⟩, ⟨by repeat (first | (with_reducible first | exact HB.out | apply below_alloc | apply pw_below_drewN | apply below_drew1 | refine below_set ?_ GE189.out | refine below_set ?_ GE201.out | refine below_set ?_ GE202.out) | exact HB.out)⟩⟩
                                    · replace c36 := Bool.eq_false_iff.mpr c36
                                      subst c36
                                      have H1 : (none) = some r := by rw [if_neg (show ¬ (false = true) by decide)] at H; exact H
                                      clear H
                                      have H := H1
                                      clear H1
                                      exact absurd H (by simp)
                                  · replace c34 := Bool.eq_false_iff.mpr c34
                                    subst c34
                                    have H1 : (none) = some r := by rw [if_neg (show ¬ (false = true) by decide)] at H; exact H
                                    clear H
                                    have H := H1
                                    clear H1
                                    exact absurd H (by simp)
                                · rw [if_neg c32] at H
                                  exact absurd H (by simp)
                              · replace c31 := Bool.eq_false_iff.mpr c31
                                subst c31
                                have H1 : (none) = some r := by rw [if_neg (show ¬ (false = true) by decide)] at H; exact H
                                clear H
                                have H := H1
                                clear H1
                                exact absurd H (by simp)
                            · rw [if_neg c30] at H
                              exact absurd H (by simp)
                          · rw [if_neg c29] at H
                            exact absurd H (by simp)
                        · rw [if_neg c28] at H
                          exact absurd H (by simp)
                      · rw [if_neg c26] at H
                        exact absurd H (by simp)
                    · rw [if_neg c25] at H
                      exact absurd H (by simp)
                  · rw [if_neg c24] at H
                    exact absurd H (by simp)
              · rw [if_neg c20] at H
                have c20b0 : decide (0 < (l0.length : Int)) = false := decide_eq_false c20
                have c20b1 : decide (0 < l0.length) = false := decide_eq_false (by omega)
                have c20b2 : (0 < l0.length) = False := eq_false (by omega)
                have c20e : l0 = [] := List.eq_nil_of_length_eq_zero (by omega)
                clear c20 c20b0 c20b1 c20b2
                subst c20e
                have H' := Aside0.mk H
                clear H
                go_wp2
                go_meet
                case rel => exact ⟨_, H', ⟨by have := HK1.out; first | omega | exact Nat.le_refl _⟩, ⟨by (with_reducible repeat (first | apply Kd.V_alloc | apply Kd.V_drewN | apply Kd.V_drew)); exact Kd.V_mono HO_0.out (fun _ hk => ⟨hk.1.1, ⟨hk.1.2, hk.2⟩⟩)⟩, ⟨by (with_reducible repeat (first | apply Kd.N_alloc | apply Kd.N_drewN | apply Kd.N_drew)); exact HO187.out⟩, ⟨by (with_reducible repeat (first | refine blk_drewN ?_ _ | refine blk_drew ?_ | refine blk_alloc ?_ _)); exact BK189.out⟩, ⟨by repeat (first | (with_reducible first | exact HB.out | apply below_alloc | apply pw_below_drewN | apply below_drew1 | refine below_set ?_ GE189.out) | exact HB.out)⟩⟩
            case rest =>
              clear HC14
              try clear c1
              try clear c2
              try clear p2
              try clear q2
              try clear hx2
              try clear c3
              try clear c5
              try clear q5
              try clear c8
              try clear c10
              try clear c20
              try clear c20b0
              try clear c20b1
              try clear c22
              try clear p22
              try clear q22
              try clear hx22
              try clear c24
              try clear c25
              try clear c26
              try clear c28
              try clear c29
              try clear c30
              try clear c31
              try clear c32
              try clear c34
              try clear c36
              try clear c51
              try clear q51
              try clear hx222_0
              try clear hx222_1
              try clear hx222_2
              try clear p222
              try clear q051
              try clear q222
              try clear q51
              obtain ⟨kq, HA, HJ13, HO_0, HO_190000, BK189, HB⟩ := hcut
              cases kq with
              | zero => exact absurd HA.out (by simp [garlandlaw08_BagFirst.j1])
              | succ kj13 =>
                have H := HA.out
                clear HA
                simp only [garlandlaw08_BagFirst.j1] at H
                have H' := Aside0.mk H
                clear H
                go_wp2
                go_loopg [11] kj13 (fun kq v11 w' => ∃ (x11_3 : Int) (x190000_3 : List (S26)) (x190001_3 : Int) (u190000 : Value), v11 = .int .i64 x11_3 ∧ Aside0 (garlandlaw08_BagFirst.l1 kq l0 x11_3 x190000_3 x190001_3 = some r) ∧ Aside0 (kq ≤ kj13) ∧ Aside0 (Kd.V k26 26 w' w.heap.size (fun k_ => (P0_ k_ ∨ w.heap.size ≤ k_) ∧ some k_ ≠ (u190000 : Value).ownBlock ∧ k_ ≠ gb189) (.slice A0 l0.length c0) l0) ∧ Aside0 (Kd.N k26 26 w' w.heap.size (fun k_ => (P0_ k_ ∨ w.heap.size ≤ k_) ∧ k_ ≠ gb189) u190000 x190000_3) ∧ Aside0 (w'.heap[gb189]? = some (.cells #[u190000, .int .i64 x190001_3] 28 (0, 0))) ∧ Aside0 (Below w.heap.size w w'))
                case atStart => exact ⟨(0), (t185), (t188), (.slice Ao17 t185.length co17), (by first | rfl | (simp; done) | (simp [*]; done)), H', ⟨Nat.le_refl _⟩, ⟨by (with_reducible repeat (first | apply Kd.V_alloc | apply Kd.V_drewN | apply Kd.V_drew)); exact HO_0.out⟩, ⟨by (with_reducible repeat (first | apply Kd.N_alloc | apply Kd.N_drewN | apply Kd.N_drew)); exact HO_190000.out⟩, ⟨by (with_reducible repeat (first | refine blk_drewN ?_ _ | refine blk_drew ?_ | refine blk_alloc ?_ _)); exact BK189.out⟩, ⟨by repeat (first | (with_reducible first | exact HB.out | apply below_alloc | apply pw_below_drewN | apply below_drew1 | refine below_set ?_ GE189.out) | exact HB.out)⟩⟩
                case round =>
                  clear H'
                  try clear c1
                  try clear c2
                  try clear p2
                  try clear q2
                  try clear hx2
                  try clear c3
                  try clear c5
                  try clear q5
                  try clear c8
                  try clear c10
                  try clear c20
                  try clear c20b0
                  try clear c20b1
                  try clear c22
                  try clear p22
                  try clear q22
                  try clear hx22
                  try clear c24
                  try clear c25
                  try clear c26
                  try clear c28
                  try clear c29
                  try clear c30
                  try clear c31
                  try clear c32
                  try clear c34
                  try clear c36
                  try clear c51
                  try clear q51
                  try clear hx222_0
                  try clear hx222_1
                  try clear hx222_2
                  try clear p2
                  try clear p22
                  try clear p222
                  try clear q051
                  try clear q2
                  try clear q22
                  try clear q222
                  try clear q5
                  try clear q51
                  obtain ⟨x11_3, x190000_3, x190001_3, u190000, rfl, HA, HK3, HO_0, HO_190000, BK189, HB⟩ := hrel
                  cases gk with
                  | zero => exact absurd HA.out (by simp [garlandlaw08_BagFirst.l1])
                  | succ k3 =>
                    have H := HA.out
                    clear HA
                    simp only [garlandlaw08_BagFirst.l1] at H
                    by_cases c60 : x11_3 < (l0.length : Int)
                    · rw [if_pos c60] at H
                      have c60b0 : decide (x11_3 < (l0.length : Int)) = true := decide_eq_true c60
                      clear c60
                      replace H := Option.bind_eq_some_iff.mp H
                      obtain ⟨⟨t226, t229, t230, t231, t234, t235⟩, A610, H⟩ := H
                      replace H : (if t235 = true then (if 0 ≤ x11_3 then ((garlandref08_Gram.f t230 t231 t234 ((rd_T26 l0 x11_3).f0) ((rd_T26 l0 x11_3).f1) ((rd_T26 l0 x11_3).f2)).bind fun t239 => (if t239 = true then (garlandlaw08_BagFirst.l1 k3 l0 (wrap64 (x11_3 + 1)) t226 t229) else (none))) else (none)) else (none)) = some r := H
                      have A61 := Aside0.mk A610
                      clear A610
                      by_cases c62 : t235 = true
                      · subst c62
                        have H1 : (if 0 ≤ x11_3 then ((garlandref08_Gram.f t230 t231 t234 ((rd_T26 l0 x11_3).f0) ((rd_T26 l0 x11_3).f1) ((rd_T26 l0 x11_3).f2)).bind fun t239 => (if t239 = true then (garlandlaw08_BagFirst.l1 k3 l0 (wrap64 (x11_3 + 1)) t226 t229) else (none))) else (none)) = some r := by rw [if_pos rfl] at H; exact H
                        clear H
                        have H := H1
                        clear H1
                        by_cases c63 : 0 ≤ x11_3
                        · rw [if_pos c63] at H
                          have c63b0 : decide (0 ≤ x11_3) = true := decide_eq_true c63
                          clear c63
                          replace H := Option.bind_eq_some_iff.mp H
                          obtain ⟨t239, A640, H⟩ := H
                          replace H : (if t239 = true then (garlandlaw08_BagFirst.l1 k3 l0 (wrap64 (x11_3 + 1)) t226 t229) else (none)) = some r := H
                          have A64 := Aside0.mk A640
                          clear A640
                          by_cases c65 : t239 = true
                          · subst c65
                            have H1 : (garlandlaw08_BagFirst.l1 k3 l0 (wrap64 (x11_3 + 1)) t226 t229) = some r := by rw [if_pos rfl] at H; exact H
                            clear H
                            have H := H1
                            clear H1
                            have H' := Aside0.mk H
                            clear H
                            have hcz66_0 : wr.cell? ⟨gb189, 0, none⟩ = some (u190000) := (blk_cell BK189.out 0).trans rfl
                            have hcz66_1 : wr.cell? ⟨gb189, 1, none⟩ = some (.int .i64 x190001_3) := (blk_cell BK189.out 1).trans rfl
                            have hfz66_0 := blk_frozen BK189.out 0
                            have hfz66_1 := blk_frozen BK189.out 1
                            obtain ⟨Ao67, co67, eo67⟩ := Kd.N_slice HO_190000.out
                            subst eo67
                            try go_wp2_with (first | ((with_reducible refine gate_callee (f := 9) rfl ?_); refine goesL_ (some 97) rfl rfl Try.func9 (by kernel_rfl) rfl #[.agg #[.slice Ao67 x190000_3.length co67, .int .i64 x190001_3], .int .i64 0] rfl (by (try simp only [List.map_toArray, List.map_cons, List.map_nil]); first | done | rfl | (simp only [List.length_drop, List.length_take]; rfl)) ?_; (with_reducible refine (bag_Take.calls _ _ x190000_3 x190001_3 0 t226 t229 t230 t231 t234 true _ ?side1 ?side2 A61.out).mono ?_); (case side1 => repeat (first | exact (Kd.N_reads' HO_190000.out).2.2 | (with_reducible refine Kd.C_alloc ?_ _) | (with_reducible refine Kd.C_drewN ?_ _) | (with_reducible refine Kd.C_drew ?_))); (case side2 => exact (Kd.N_reads' HO_190000.out).2.1); rintro e w68 ⟨v227, v232, rfl, ho0, ho1, hb⟩; refine ⟨_, rfl, ?_⟩; have n0_ := Aside0.mk (Kd.V_mono (Kd.V_told (Kd.V_told (Kd.V_old (by (with_reducible repeat (first | apply Kd.V_alloc | apply Kd.V_drewN | apply Kd.V_drew)); exact HO_0.out) hb) (Kd.S_base ho0)) (Kd.R_base ho1)) (fun _ h_ => h_.1)); have n1_ := Aside0.mk (Kd.N_mono (Kd.N_told (Kd.N_told (Kd.N_old (by (with_reducible repeat (first | apply Kd.N_alloc | apply Kd.N_drewN | apply Kd.N_drew)); exact HO_190000.out) hb) (Kd.S_base ho0)) (Kd.R_base ho1)) (fun _ h_ => h_.1)); have n2_ := Aside0.mk (Kd.N_lower (Kd.N_mono (ok' := fun k_ => (P0_ k_ ∨ w.heap.size ≤ k_) ∧ some k_ ≠ (v232 : Value).ownBlock ∧ some k_ ≠ (.slice Ao67 x190000_3.length co67 : Value).ownBlock ∧ k_ ≠ gb189) (Kd.S_N (Kd.S_bound ho0)) (fun k_ hk_ => ⟨(.inr (Nat.le_trans (below_size (by repeat (first | (with_reducible first | exact HB.out | apply below_alloc | apply pw_below_drewN | apply below_drew1 | refine below_set ?_ GE189.out) | exact HB.out))) hk_.2.1)), hk_.1, (Kd.fresh' (Kd.N_lt (by (with_reducible repeat (first | apply Kd.N_alloc | apply Kd.N_drewN | apply Kd.N_drew)); exact HO_190000.out)) k_ hk_.2.1), (Kd.freshB (g := gb189) (o := .cells #[.slice Ao67 x190000_3.length co67, .int .i64 x190001_3] 28 (0, 0)) (by (with_reducible repeat (first | refine blk_drewN ?_ _ | refine blk_drew ?_ | refine blk_alloc ?_ _)); exact BK189.out) k_ hk_.2.1)⟩)) (below_size (by repeat (first | (with_reducible first | exact HB.out | apply below_alloc | apply pw_below_drewN | apply below_drew1 | refine below_set ?_ GE189.out) | exact HB.out)))); have n3_ := Aside0.mk (Kd.R_lower (Kd.R_newM (M := fun k_ => (w.heap.size ≤ k_)) ho1 (below_size (by repeat (first | (with_reducible first | exact HB.out | apply below_alloc | apply pw_below_drewN | apply below_drew1 | refine below_set ?_ GE189.out) | exact HB.out))) (fun k_ h_ => h_)) (below_size (by repeat (first | (with_reducible first | exact HB.out | apply below_alloc | apply pw_below_drewN | apply below_drew1 | refine below_set ?_ GE189.out) | exact HB.out)))); have n4_ := Aside0.mk (blk_below (g := gb189) (o := .cells #[.slice Ao67 x190000_3.length co67, .int .i64 x190001_3] 28 (0, 0)) (by (with_reducible repeat (first | refine blk_drewN ?_ _ | refine blk_drew ?_ | refine blk_alloc ?_ _)); exact BK189.out) hb); have n5_ := Aside0.mk (below_step (by repeat (first | (with_reducible first | exact HB.out | apply below_alloc | apply pw_below_drewN | apply below_drew1 | refine below_set ?_ GE189.out) | exact HB.out)) hb); clear HO_0; clear HO_190000; clear BK189; clear HB; have HO_0 := n0_; have HO_190000 := n1_; have HO228 := n2_; have HO233 := n3_; have BK189 := n4_; have HB := n5_; clear n0_ n1_ n2_ n3_ n4_ n5_; (try clear hb); (try clear hb2); (try clear hk); (try clear hi); (try clear ho0); (try clear ho1)) | ((with_reducible refine gate_dst (N := 12) rfl ?_); refine box_event ?hg (N := 12) ?hd (cs := #[.slice none 0 0, .int .i64 0]) (t := 28) ?hr ?_; (case hd => rfl); (case hg => rfl); (case hr => first | (go_simp; done) | (go_simp; rfl)); intro gb236 hg w69 hbox hb; have n0_ := Aside0.mk (Kd.V_below (Kd.V_elderB (by (with_reducible repeat (first | apply Kd.V_alloc | apply Kd.V_drewN | apply Kd.V_drew)); exact HO_0.out) gb236 (Nat.le_of_eq hg.symm)) hb); have n1_ := Aside0.mk (Kd.N_below (Kd.N_elderB (by (with_reducible repeat (first | apply Kd.N_alloc | apply Kd.N_drewN | apply Kd.N_drew)); exact HO_190000.out) gb236 (Nat.le_of_eq hg.symm)) hb); have n2_ := Aside0.mk (Kd.N_below (Kd.N_elderB (by (with_reducible repeat (first | apply Kd.N_alloc | apply Kd.N_drewN | apply Kd.N_drew)); exact HO228.out) gb236 (Nat.le_of_eq hg.symm)) hb); have n3_ := Aside0.mk (Kd.R_below (by (with_reducible repeat (first | apply Kd.R_alloc | apply Kd.R_drewN | apply Kd.R_drew)); exact HO233.out) hb); have n4_ := Aside0.mk (blk_below (g := gb189) (o := .cells #[.slice Ao67 x190000_3.length co67, .int .i64 x190001_3] 28 (0, 0)) (by (with_reducible repeat (first | refine blk_drewN ?_ _ | refine blk_drew ?_ | refine blk_alloc ?_ _)); exact BK189.out) hb); have n5_ := Aside0.mk (below_step (by repeat (first | (with_reducible first | exact HB.out | apply below_alloc | apply pw_below_drewN | apply below_drew1 | refine below_set ?_ GE189.out) | exact HB.out)) hb); have n6_ := Aside0.mk (hbox); have n7_ := Aside0.mk ((by rw [hg]; exact (below_size (by repeat (first | (with_reducible first | exact HB.out | apply below_alloc | apply pw_below_drewN | apply below_drew1 | refine below_set ?_ GE189.out) | exact HB.out))) : w.heap.size ≤ gb236)); have n8_ := Aside0.mk ((by rw [hg]; exact (below_size (by repeat (first | (with_reducible first | exact HB.out | apply below_alloc | apply pw_below_drewN | apply below_drew1 | refine below_set ?_ GE189.out) | exact HB.out))) : w.heap.size ≤ gb236)); have n9_ := Aside0.mk ((by rw [hg]; exact Nat.ne_of_lt (blk_lt (g := gb189) (o := .cells #[.slice Ao67 x190000_3.length co67, .int .i64 x190001_3] 28 (0, 0)) (by (with_reducible repeat (first | refine blk_drewN ?_ _ | refine blk_drew ?_ | refine blk_alloc ?_ _)); exact BK189.out)) : gb189 ≠ gb236)); have n10_ := Aside0.mk ((by rw [hg]; exact Nat.ne_of_gt (blk_lt (g := gb189) (o := .cells #[.slice Ao67 x190000_3.length co67, .int .i64 x190001_3] 28 (0, 0)) (by (with_reducible repeat (first | refine blk_drewN ?_ _ | refine blk_drew ?_ | refine blk_alloc ?_ _)); exact BK189.out)) : gb236 ≠ gb189)); clear HO_0; clear HO_190000; clear HO228; clear HO233; clear BK189; clear HB; have HO_0 := n0_; have HO_190000 := n1_; have HO228 := n2_; have HO233 := n3_; have BK189 := n4_; have HB := n5_; have BK236 := n6_; have GW236 := n7_; have GE236 := n8_; have NB189_236 := n9_; have NB236_189 := n10_; clear n0_ n1_ n2_ n3_ n4_ n5_ n6_ n7_ n8_ n9_ n10_; clear hb hbox hg) | ((with_reducible refine gate_dst (N := 13) rfl ?_); refine box_event ?hg (N := 13) ?hd (cs := #[.int .i64 0, .slice none 0 0, .bool false]) (t := 26) ?hr ?_; (case hd => rfl); (case hg => rfl); (case hr => first | (go_simp; done) | (go_simp; rfl)); intro gb237 hg w70 hbox hb; have n0_ := Aside0.mk (Kd.V_below (Kd.V_elderB (by (with_reducible repeat (first | apply Kd.V_alloc | apply Kd.V_drewN | apply Kd.V_drew)); exact HO_0.out) gb237 (Nat.le_of_eq hg.symm)) hb); have n1_ := Aside0.mk (Kd.N_below (Kd.N_elderB (by (with_reducible repeat (first | apply Kd.N_alloc | apply Kd.N_drewN | apply Kd.N_drew)); exact HO_190000.out) gb237 (Nat.le_of_eq hg.symm)) hb); have n2_ := Aside0.mk (Kd.N_below (Kd.N_elderB (by (with_reducible repeat (first | apply Kd.N_alloc | apply Kd.N_drewN | apply Kd.N_drew)); exact HO228.out) gb237 (Nat.le_of_eq hg.symm)) hb); have n3_ := Aside0.mk (Kd.R_below (by (with_reducible repeat (first | apply Kd.R_alloc | apply Kd.R_drewN | apply Kd.R_drew)); exact HO233.out) hb); have n4_ := Aside0.mk (blk_below (g := gb189) (o := .cells #[.slice Ao67 x190000_3.length co67, .int .i64 x190001_3] 28 (0, 0)) (by (with_reducible repeat (first | refine blk_drewN ?_ _ | refine blk_drew ?_ | refine blk_alloc ?_ _)); exact BK189.out) hb); have n5_ := Aside0.mk (blk_below (g := gb236) (o := .cells #[.slice none 0 0, .int .i64 0] 28 (0, 0)) (by (with_reducible repeat (first | refine blk_drewN ?_ _ | refine blk_drew ?_ | refine blk_alloc ?_ _)); exact BK236.out) hb); have n6_ := Aside0.mk (below_step (by repeat (first | (with_reducible first | exact HB.out | apply below_alloc | apply pw_below_drewN | apply below_drew1 | refine below_set ?_ GE189.out | refine below_set ?_ GE236.out) | exact HB.out)) hb); have n7_ := Aside0.mk (hbox); have n8_ := Aside0.mk ((by rw [hg]; exact (below_size (by repeat (first | (with_reducible first | exact HB.out | apply below_alloc | apply pw_below_drewN | apply below_drew1 | refine below_set ?_ GE189.out | refine below_set ?_ GE236.out) | exact HB.out))) : w.heap.size ≤ gb237)); have n9_ := Aside0.mk ((by rw [hg]; exact (below_size (by repeat (first | (with_reducible first | exact HB.out | apply below_alloc | apply pw_below_drewN | apply below_drew1 | refine below_set ?_ GE189.out | refine below_set ?_ GE236.out) | exact HB.out))) : w.heap.size ≤ gb237)); have n10_ := Aside0.mk ((by rw [hg]; exact Nat.ne_of_lt (blk_lt (g := gb189) (o := .cells #[.slice Ao67 x190000_3.length co67, .int .i64 x190001_3] 28 (0, 0)) (by (with_reducible repeat (first | refine blk_drewN ?_ _ | refine blk_drew ?_ | refine blk_alloc ?_ _)); exact BK189.out)) : gb189 ≠ gb237)); have n11_ := Aside0.mk ((by rw [hg]; exact Nat.ne_of_gt (blk_lt (g := gb189) (o := .cells #[.slice Ao67 x190000_3.length co67, .int .i64 x190001_3] 28 (0, 0)) (by (with_reducible repeat (first | refine blk_drewN ?_ _ | refine blk_drew ?_ | refine blk_alloc ?_ _)); exact BK189.out)) : gb237 ≠ gb189)); have n12_ := Aside0.mk ((by rw [hg]; exact Nat.ne_of_lt (blk_lt (g := gb236) (o := .cells #[.slice none 0 0, .int .i64 0] 28 (0, 0)) (by (with_reducible repeat (first | refine blk_drewN ?_ _ | refine blk_drew ?_ | refine blk_alloc ?_ _)); exact BK236.out)) : gb236 ≠ gb237)); have n13_ := Aside0.mk ((by rw [hg]; exact Nat.ne_of_gt (blk_lt (g := gb236) (o := .cells #[.slice none 0 0, .int .i64 0] 28 (0, 0)) (by (with_reducible repeat (first | refine blk_drewN ?_ _ | refine blk_drew ?_ | refine blk_alloc ?_ _)); exact BK236.out)) : gb237 ≠ gb236)); clear HO_0; clear HO_190000; clear HO228; clear HO233; clear BK189; clear BK236; clear HB; have HO_0 := n0_; have HO_190000 := n1_; have HO228 := n2_; have HO233 := n3_; have BK189 := n4_; have BK236 := n5_; have HB := n6_; have BK237 := n7_; have GW237 := n8_; have GE237 := n9_; have NB189_237 := n10_; have NB237_189 := n11_; have NB236_237 := n12_; have NB237_236 := n13_; clear n0_ n1_ n2_ n3_ n4_ n5_ n6_ n7_ n8_ n9_ n10_ n11_ n12_ n13_; clear hb hbox hg; obtain ⟨Ao71, co71, eo71⟩ := Kd.N_slice HO228.out; subst eo71; have hnb72 := NB236_189.out; have hnc72 := NB189_236.out; have hnb73 := NB236_237.out; have hnc73 := NB237_236.out; have hcz74_0 : w70.cell? ⟨gb236, 0, none⟩ = some (.slice none 0 0) := (blk_cell BK236.out 0).trans rfl; have hcz74_1 : w70.cell? ⟨gb236, 1, none⟩ = some (.int .i64 0) := (blk_cell BK236.out 1).trans rfl; have hfz74_0 := blk_frozen BK236.out 0; have hfz74_1 := blk_frozen BK236.out 1; have hnb75 := NB237_189.out; have hnc75 := NB189_237.out; have hcz76_0 : w70.cell? ⟨gb237, 0, none⟩ = some (.int .i64 0) := (blk_cell BK237.out 0).trans rfl; have hcz76_1 : w70.cell? ⟨gb237, 1, none⟩ = some (.slice none 0 0) := (blk_cell BK237.out 1).trans rfl; have hcz76_2 : w70.cell? ⟨gb237, 2, none⟩ = some (.bool false) := (blk_cell BK237.out 2).trans rfl; have hfz76_0 := blk_frozen BK237.out 0; have hfz76_1 := blk_frozen BK237.out 1; have hfz76_2 := blk_frozen BK237.out 2; obtain ⟨Ao77, co77, eo77⟩ := Kd.R_slice HO233.out; subst eo77))
                            have n0_ : Aside0 (Kd.V k26 26 (((((w70.setCell ⟨gb236, 0, none⟩ (.slice Ao71 t226.length co71)).setCell ⟨gb236, 1, none⟩ (.int .i64 t229)).setCell ⟨gb237, 0, none⟩ (.int .i64 t230)).setCell ⟨gb237, 1, none⟩ (.slice Ao77 t231.length co77)).setCell ⟨gb237, 2, none⟩ (.bool t234)) w.heap.size (fun k_ => (P0_ k_ ∨ w.heap.size ≤ k_) ∧ some k_ ≠ (.slice Ao67 x190000_3.length co67 : Value).ownBlock ∧ some k_ ≠ (.slice Ao71 t226.length co71 : Value).ownBlock ∧ some k_ ≠ (.slice Ao77 t231.length co77 : Value).ownBlock ∧ k_ ≠ gb189 ∧ k_ ≠ gb236 ∧ k_ ≠ gb237) (.slice A0 l0.length c0) l0) := ⟨by (with_reducible repeat (first | apply Kd.V_alloc | apply Kd.V_drewN | apply Kd.V_drew)); exact Kd.V_mono (Kd.V_far (p := ⟨gb237, 2, none⟩) (Kd.V_far (p := ⟨gb237, 1, none⟩) (Kd.V_far (p := ⟨gb237, 0, none⟩) (Kd.V_far (p := ⟨gb236, 1, none⟩) (Kd.V_far (p := ⟨gb236, 0, none⟩) (Kd.V_mono (Kd.V_mono HO_0.out (fun k_ hk => (⟨hk, hk.1.2⟩ : _ ∧ k_ ≠ gb236))) (fun k_ hk => (⟨hk, hk.1.2⟩ : _ ∧ k_ ≠ gb237))) (fun _ hk => hk.1.2) (.slice Ao71 t226.length co71)) (fun _ hk => hk.1.2) (.int .i64 t229)) (fun _ hk => hk.2) (.int .i64 t230)) (fun _ hk => hk.2) (.slice Ao77 t231.length co77)) (fun _ hk => hk.2) (.bool t234)) (fun _ hk => ⟨hk.1.1.1.1.1.1.1, ⟨hk.1.1.1.1.1.1.2.1, ⟨hk.1.1.1.1.1.2, ⟨hk.1.1.1.1.2, ⟨hk.1.1.1.1.1.1.2.2, ⟨hk.1.1.1.2, hk.1.1.2⟩⟩⟩⟩⟩⟩)⟩
                            have n1_ : Aside0 (Kd.N k26 26 (((((w70.setCell ⟨gb236, 0, none⟩ (.slice Ao71 t226.length co71)).setCell ⟨gb236, 1, none⟩ (.int .i64 t229)).setCell ⟨gb237, 0, none⟩ (.int .i64 t230)).setCell ⟨gb237, 1, none⟩ (.slice Ao77 t231.length co77)).setCell ⟨gb237, 2, none⟩ (.bool t234)) w.heap.size (fun k_ => (P0_ k_ ∨ w.heap.size ≤ k_) ∧ some k_ ≠ (.slice Ao71 t226.length co71 : Value).ownBlock ∧ some k_ ≠ (.slice Ao77 t231.length co77 : Value).ownBlock ∧ k_ ≠ gb189 ∧ k_ ≠ gb236 ∧ k_ ≠ gb237) (.slice Ao67 x190000_3.length co67) x190000_3) := ⟨by (with_reducible repeat (first | apply Kd.N_alloc | apply Kd.N_drewN | apply Kd.N_drew)); exact Kd.N_mono (Kd.N_far (p := ⟨gb237, 2, none⟩) (Kd.N_far (p := ⟨gb237, 1, none⟩) (Kd.N_far (p := ⟨gb237, 0, none⟩) (Kd.N_far (p := ⟨gb236, 1, none⟩) (Kd.N_far (p := ⟨gb236, 0, none⟩) (Kd.N_mono (Kd.N_mono HO_190000.out (fun k_ hk => (⟨hk, hk.1.2⟩ : _ ∧ k_ ≠ gb236))) (fun k_ hk => (⟨hk, hk.1.2⟩ : _ ∧ k_ ≠ gb237))) (fun _ hk => hk.1.2) (.slice Ao71 t226.length co71)) (fun _ hk => hk.1.2) (.int .i64 t229)) (fun _ hk => hk.2) (.int .i64 t230)) (fun _ hk => hk.2) (.slice Ao77 t231.length co77)) (fun _ hk => hk.2) (.bool t234)) (fun _ hk => ⟨hk.1.1.1.1.1.1.1, ⟨hk.1.1.1.1.1.2, ⟨hk.1.1.1.1.2, ⟨hk.1.1.1.1.1.1.2, ⟨hk.1.1.1.2, hk.1.1.2⟩⟩⟩⟩⟩)⟩
                            have n2_ : Aside0 (Kd.N k26 26 (((((w70.setCell ⟨gb236, 0, none⟩ (.slice Ao71 t226.length co71)).setCell ⟨gb236, 1, none⟩ (.int .i64 t229)).setCell ⟨gb237, 0, none⟩ (.int .i64 t230)).setCell ⟨gb237, 1, none⟩ (.slice Ao77 t231.length co77)).setCell ⟨gb237, 2, none⟩ (.bool t234)) w.heap.size (fun k_ => (P0_ k_ ∨ w.heap.size ≤ k_) ∧ some k_ ≠ (.slice Ao67 x190000_3.length co67 : Value).ownBlock ∧ some k_ ≠ (.slice Ao77 t231.length co77 : Value).ownBlock ∧ k_ ≠ gb189 ∧ k_ ≠ gb236 ∧ k_ ≠ gb237) (.slice Ao71 t226.length co71) t226) := ⟨by (with_reducible repeat (first | apply Kd.N_alloc | apply Kd.N_drewN | apply Kd.N_drew)); exact Kd.N_mono (Kd.N_far (p := ⟨gb237, 2, none⟩) (Kd.N_far (p := ⟨gb237, 1, none⟩) (Kd.N_far (p := ⟨gb237, 0, none⟩) (Kd.N_far (p := ⟨gb236, 1, none⟩) (Kd.N_far (p := ⟨gb236, 0, none⟩) (Kd.N_mono (Kd.N_mono HO228.out (fun k_ hk => (⟨hk, hk.1.2⟩ : _ ∧ k_ ≠ gb236))) (fun k_ hk => (⟨hk, hk.1.2⟩ : _ ∧ k_ ≠ gb237))) (fun _ hk => hk.1.2) (.slice Ao71 t226.length co71)) (fun _ hk => hk.1.2) (.int .i64 t229)) (fun _ hk => hk.2) (.int .i64 t230)) (fun _ hk => hk.2) (.slice Ao77 t231.length co77)) (fun _ hk => hk.2) (.bool t234)) (fun _ hk => ⟨hk.1.1.1.1.1, ⟨hk.1.1.1.1.2.2.1, ⟨hk.1.1.1.1.2.1, ⟨hk.1.1.1.1.2.2.2, ⟨hk.1.1.1.2, hk.1.1.2⟩⟩⟩⟩⟩)⟩
                            have n3_ : Aside0 (Kd.R (Kd.int .u8) 5 (((((w70.setCell ⟨gb236, 0, none⟩ (.slice Ao71 t226.length co71)).setCell ⟨gb236, 1, none⟩ (.int .i64 t229)).setCell ⟨gb237, 0, none⟩ (.int .i64 t230)).setCell ⟨gb237, 1, none⟩ (.slice Ao77 t231.length co77)).setCell ⟨gb237, 2, none⟩ (.bool t234)) w.heap.size (fun k_ => (w.heap.size ≤ k_)) (.slice Ao77 t231.length co77) t231) := ⟨by (with_reducible repeat (first | apply Kd.R_alloc | apply Kd.R_drewN | apply Kd.R_drew)); exact Kd.R_mono (Kd.R_far (p := ⟨gb237, 2, none⟩) (Kd.R_far (p := ⟨gb237, 1, none⟩) (Kd.R_far (p := ⟨gb237, 0, none⟩) (Kd.R_far (p := ⟨gb236, 1, none⟩) (Kd.R_far (p := ⟨gb236, 0, none⟩) (Kd.R_types (Kd.R_types HO233.out BK236.out (by decide)) BK237.out (by decide)) (fun _ hk => hk.1.2) (.slice Ao71 t226.length co71)) (fun _ hk => hk.1.2) (.int .i64 t229)) (fun _ hk => hk.2) (.int .i64 t230)) (fun _ hk => hk.2) (.slice Ao77 t231.length co77)) (fun _ hk => hk.2) (.bool t234)) (fun _ hk => hk.1.1.1)⟩
                            have n4_ : Aside0 ((((((w70.setCell ⟨gb236, 0, none⟩ (.slice Ao71 t226.length co71)).setCell ⟨gb236, 1, none⟩ (.int .i64 t229)).setCell ⟨gb237, 0, none⟩ (.int .i64 t230)).setCell ⟨gb237, 1, none⟩ (.slice Ao77 t231.length co77)).setCell ⟨gb237, 2, none⟩ (.bool t234)).heap[gb189]? = some (.cells #[.slice Ao67 x190000_3.length co67, .int .i64 x190001_3] 28 (0, 0))) := ⟨by (with_reducible repeat (first | refine blk_drewN ?_ _ | refine blk_drew ?_ | refine blk_alloc ?_ _)); refine blk_far ?_ NB189_237.out _; (with_reducible repeat (first | refine blk_drewN ?_ _ | refine blk_drew ?_ | refine blk_alloc ?_ _)); refine blk_far ?_ NB189_237.out _; (with_reducible repeat (first | refine blk_drewN ?_ _ | refine blk_drew ?_ | refine blk_alloc ?_ _)); refine blk_far ?_ NB189_237.out _; (with_reducible repeat (first | refine blk_drewN ?_ _ | refine blk_drew ?_ | refine blk_alloc ?_ _)); refine blk_far ?_ NB189_236.out _; (with_reducible repeat (first | refine blk_drewN ?_ _ | refine blk_drew ?_ | refine blk_alloc ?_ _)); refine blk_far ?_ NB189_236.out _; (with_reducible repeat (first | refine blk_drewN ?_ _ | refine blk_drew ?_ | refine blk_alloc ?_ _)); exact BK189.out⟩
                            have n5_ : Aside0 ((((((w70.setCell ⟨gb236, 0, none⟩ (.slice Ao71 t226.length co71)).setCell ⟨gb236, 1, none⟩ (.int .i64 t229)).setCell ⟨gb237, 0, none⟩ (.int .i64 t230)).setCell ⟨gb237, 1, none⟩ (.slice Ao77 t231.length co77)).setCell ⟨gb237, 2, none⟩ (.bool t234)).heap[gb236]? = some (.cells #[.slice Ao71 t226.length co71, .int .i64 t229] 28 (0, 0))) := ⟨by (with_reducible repeat (first | refine blk_drewN ?_ _ | refine blk_drew ?_ | refine blk_alloc ?_ _)); refine blk_far ?_ NB236_237.out _; (with_reducible repeat (first | refine blk_drewN ?_ _ | refine blk_drew ?_ | refine blk_alloc ?_ _)); refine blk_far ?_ NB236_237.out _; (with_reducible repeat (first | refine blk_drewN ?_ _ | refine blk_drew ?_ | refine blk_alloc ?_ _)); refine blk_far ?_ NB236_237.out _; (with_reducible repeat (first | refine blk_drewN ?_ _ | refine blk_drew ?_ | refine blk_alloc ?_ _)); refine blk_put (cs := #[.slice Ao71 t226.length co71, .int .i64 0]) ?_ 1 _ rfl; (with_reducible repeat (first | refine blk_drewN ?_ _ | refine blk_drew ?_ | refine blk_alloc ?_ _)); refine blk_put (cs := #[.slice none 0 0, .int .i64 0]) ?_ 0 _ rfl; (with_reducible repeat (first | refine blk_drewN ?_ _ | refine blk_drew ?_ | refine blk_alloc ?_ _)); exact BK236.out⟩
                            have n6_ : Aside0 ((((((w70.setCell ⟨gb236, 0, none⟩ (.slice Ao71 t226.length co71)).setCell ⟨gb236, 1, none⟩ (.int .i64 t229)).setCell ⟨gb237, 0, none⟩ (.int .i64 t230)).setCell ⟨gb237, 1, none⟩ (.slice Ao77 t231.length co77)).setCell ⟨gb237, 2, none⟩ (.bool t234)).heap[gb237]? = some (.cells #[.int .i64 t230, .slice Ao77 t231.length co77, .bool t234] 26 (0, 0))) := ⟨by (with_reducible repeat (first | refine blk_drewN ?_ _ | refine blk_drew ?_ | refine blk_alloc ?_ _)); refine blk_put (cs := #[.int .i64 t230, .slice Ao77 t231.length co77, .bool false]) ?_ 2 _ rfl; (with_reducible repeat (first | refine blk_drewN ?_ _ | refine blk_drew ?_ | refine blk_alloc ?_ _)); refine blk_put (cs := #[.int .i64 t230, .slice none 0 0, .bool false]) ?_ 1 _ rfl; (with_reducible repeat (first | refine blk_drewN ?_ _ | refine blk_drew ?_ | refine blk_alloc ?_ _)); refine blk_put (cs := #[.int .i64 0, .slice none 0 0, .bool false]) ?_ 0 _ rfl; (with_reducible repeat (first | refine blk_drewN ?_ _ | refine blk_drew ?_ | refine blk_alloc ?_ _)); refine blk_far ?_ NB237_236.out _; (with_reducible repeat (first | refine blk_drewN ?_ _ | refine blk_drew ?_ | refine blk_alloc ?_ _)); refine blk_far ?_ NB237_236.out _; (with_reducible repeat (first | refine blk_drewN ?_ _ | refine blk_drew ?_ | refine blk_alloc ?_ _)); exact BK237.out⟩
                            have n7_ : Aside0 (Below w.heap.size w (((((w70.setCell ⟨gb236, 0, none⟩ (.slice Ao71 t226.length co71)).setCell ⟨gb236, 1, none⟩ (.int .i64 t229)).setCell ⟨gb237, 0, none⟩ (.int .i64 t230)).setCell ⟨gb237, 1, none⟩ (.slice Ao77 t231.length co77)).setCell ⟨gb237, 2, none⟩ (.bool t234))) := ⟨by repeat (first | (with_reducible first | exact HB.out | apply below_alloc | apply pw_below_drewN | apply below_drew1 | refine below_set ?_ GE189.out | refine below_set ?_ GE236.out | refine below_set ?_ GE237.out) | exact HB.out)⟩
                            (try clear HO_0)
                            (try clear HO_190000)
                            (try clear HO228)
                            (try clear HO233)
                            (try clear BK189)
                            (try clear BK236)
                            (try clear BK237)
                            (try clear HB)
                            generalize (((((w70.setCell ⟨gb236, 0, none⟩ (.slice Ao71 t226.length co71)).setCell ⟨gb236, 1, none⟩ (.int .i64 t229)).setCell ⟨gb237, 0, none⟩ (.int .i64 t230)).setCell ⟨gb237, 1, none⟩ (.slice Ao77 t231.length co77)).setCell ⟨gb237, 2, none⟩ (.bool t234)) = w78 at n0_ n1_ n2_ n3_ n4_ n5_ n6_ n7_ ⊢
                            have HO_0 := n0_
                            have HO_190000 := n1_
                            have HO228 := n2_
                            have HO233 := n3_
                            have BK189 := n4_
                            have BK236 := n5_
                            have BK237 := n6_
                            have HB := n7_
                            clear n0_ n1_ n2_ n3_ n4_ n5_ n6_ n7_
                            have n0_ := Aside0.mk (Kd.V_drew HO_0.out)
                            have n1_ := Aside0.mk (Kd.N_drew HO_190000.out)
                            have n2_ := Aside0.mk (Kd.N_drew HO228.out)
                            have n3_ := Aside0.mk (Kd.R_drew HO233.out)
                            have n4_ := Aside0.mk (blk_drew BK189.out)
                            have n5_ := Aside0.mk (blk_drew BK236.out)
                            have n6_ := Aside0.mk (blk_drew BK237.out)
                            have n7_ := Aside0.mk (below_drew1 HB.out)
                            clear HO_0
                            clear HO_190000
                            clear HO228
                            clear HO233
                            clear BK189
                            clear BK236
                            clear BK237
                            clear HB
                            have HO_0 := n0_
                            have HO_190000 := n1_
                            have HO228 := n2_
                            have HO233 := n3_
                            have BK189 := n4_
                            have BK236 := n5_
                            have BK237 := n6_
                            have HB := n7_
                            clear n0_ n1_ n2_ n3_ n4_ n5_ n6_ n7_
                            have p238 : 0 ≤ (x11_3 : Int) := of_decide_eq_true (by first | (with_reducible assumption) | assumption)
                            have q238 : x11_3 < (l0.length : Int) := of_decide_eq_true (by first | (with_reducible assumption) | assumption)
                            obtain ⟨ad238, A238_1, c238_1, e238, hx238_0, hx238_1, hx238_2, hl238_1, hi238_1⟩ := at_T26 (Kd.V_reads' HO_0.out).2.2 x11_3 p238 q238
                            cases e238
                            obtain ⟨ce238, hce238, hMe238, hcc238⟩ := Kd.V_get HO_0.out z26 x11_3 p238 (by first | exact q238 | exact of_decide_eq_true (by first | (with_reducible assumption) | assumption) | (have e_ := (Kd.V_reads' HO_0.out).1; omega))
                            obtain ⟨ua238_1, uc238_1, rfl, ul238_1, ge238_1⟩ := k26_openF hMe238
                            have hv238_1 := hcc238 1 _ rfl
                            rw [add_field _ _ 1 (by omega)] at hv238_1
                            replace hv238_1 := Option.some.inj (hv238_1.symm.trans hx238_1)
                            injection hv238_1 with hva_ hvn_ hvc_
                            rw [hva_] at ge238_1
                            rw [hvc_] at ul238_1
                            have HL238_1 := Aside0.mk (show Kd.V (Kd.int .u8) 5 _ w.heap.size _ _ ((rd_T26 l0 x11_3).f1) from Kd.V_mk ul238_1 ge238_1)
                            clear hva_ hvn_ hvc_ ge238_1 ul238_1
                            clear hcc238 hce238
                            have HR238_1 := Aside0.mk hi238_1
                            have HC238_1 := Aside0.mk hl238_1
                            clear hi238_1 hl238_1
                            replace p238 := eq_true p238
                            replace q238 := eq_true q238
                            refine start_ (n := 11) (S := fun w' => w'.cell? ⟨gb237, 0, none⟩ = some (.int .i64 t230) ∧ w'.cell? ⟨gb237, 1, none⟩ = some (.slice Ao77 t231.length co77) ∧ w'.cell? ⟨gb237, 2, none⟩ = some (.bool t234) ∧ w'.cell? (ad238.add ((x11_3).toNat * 3)) = some (.int .i64 ((rd_T26 l0 x11_3).f0)) ∧ w'.cell? ⟨(ad238.add ((x11_3).toNat * 3)).block, (ad238.add ((x11_3).toNat * 3)).off + 1, none⟩ = some (.slice A238_1 ((rd_T26 l0 x11_3).f1).length c238_1) ∧ w'.cell? ⟨(ad238.add ((x11_3).toNat * 3)).block, (ad238.add ((x11_3).toNat * 3)).off + 2, none⟩ = some (.bool ((rd_T26 l0 x11_3).f2))) (ds := []) #[false, false, false, false, false, false, false, false, false, false, false] (by kernel_rfl) rfl rfl ⟨(blk_cell BK237.out 0).trans rfl, (blk_cell BK237.out 1).trans rfl, (blk_cell BK237.out 2).trans rfl, hx238_0, hx238_1, hx238_2⟩ (fun hHeld => ?_); refine with_tabW garlandlaw08_BagFirst.tab21 garlandlaw08_BagFirst.bits21 (fun HT_ HW_ => ?_)
                            generalize w78.drew = w79 at HO_0 HO_190000 HO228 HO233 BK189 BK236 BK237 HB HL238_1 HR238_1 hx238_0 hx238_1 hx238_2 hHeld ⊢
                            refine pure_ (i := 0) (N := some 101) (v := ?_) (a' := ?_) #[true, false, false, false, false, false, false, false, false, false, false] rfl rfl (any_of HT_.out (by kernel_rfl)) (fun _ _ _ h => h) (Or.inl ⟨by rfl, ?_⟩) ?_ ?_
                            rotate_left
                            · intro w'
                              go_simp
                              with_reducible rfl
                            rotate_left
                            · simp only [Act.put, List.setIfInBounds_toArray, List.set_cons_zero, List.set_cons_succ, i64_w, i32_w]
                              rfl
                            refine pure_ (i := 1) (N := some 102) (v := ?_) (a' := ?_) #[true, true, false, false, false, false, false, false, false, false, false] rfl rfl (any_of HT_.out (by kernel_rfl)) (fun _ _ _ h => h) (Or.inl ⟨by rfl, ?_⟩) ?_ ?_
                            rotate_left
                            · intro w'
                              go_simp
                              with_reducible rfl
                            rotate_left
                            · simp only [Act.put, List.setIfInBounds_toArray, List.set_cons_zero, List.set_cons_succ, i64_w, i32_w]
                              rfl
                            refine pure_ (i := 2) (N := some 103) (v := ?_) (a' := ?_) #[true, true, true, false, false, false, false, false, false, false, false] rfl rfl (any_of HT_.out (by kernel_rfl)) (fun _ _ _ h => h) (Or.inl ⟨by rfl, ?_⟩) ?_ ?_
                            rotate_left
                            · intro w'
                              go_simp
                              with_reducible rfl
                            rotate_left
                            · simp only [Act.put, List.setIfInBounds_toArray, List.set_cons_zero, List.set_cons_succ, i64_w, i32_w]
                              rfl
                            refine pure_ (i := 4) (N := some 105) (v := ?_) (a' := ?_) #[true, true, true, false, true, false, false, false, false, false, false] rfl rfl (any_of HT_.out (by kernel_rfl)) (fun _ _ _ h => h) (Or.inl ⟨by rfl, ?_⟩) ?_ ?_
                            rotate_left
                            · intro w'
                              go_simp
                              with_reducible rfl
                            rotate_left
                            · simp only [Act.put, List.setIfInBounds_toArray, List.set_cons_zero, List.set_cons_succ, i64_w, i32_w]
                              rfl
                            refine pure_ (i := 5) (N := some 106) (v := ?_) (a' := ?_) #[true, true, true, false, true, true, false, false, false, false, false] rfl rfl (any_of HT_.out (by kernel_rfl)) (fun _ _ _ h => h) (Or.inl ⟨by rfl, ?_⟩) ?_ ?_
                            rotate_left
                            · intro w'
                              go_simp
                              with_reducible rfl
                            rotate_left
                            · simp only [Act.put, List.setIfInBounds_toArray, List.set_cons_zero, List.set_cons_succ, i64_w, i32_w]
                              rfl
                            refine pure_ (i := 6) (N := some 107) (v := ?_) (a' := ?_) #[true, true, true, false, true, true, true, false, false, false, false] rfl rfl (any_of HT_.out (by kernel_rfl)) (fun _ _ _ h => h) (Or.inl ⟨by rfl, ?_⟩) ?_ ?_
                            rotate_left
                            · intro w'
                              go_simp
                              with_reducible rfl
                            rotate_left
                            · simp only [Act.put, List.setIfInBounds_toArray, List.set_cons_zero, List.set_cons_succ, i64_w, i32_w]
                              rfl
                            refine take_ (i := 3) (N := some 104) (v := ?_) (a' := ?_) #[true, true, true, true, true, true, true, false, false, false, false] rfl rfl (take_ofW HT_.out HW_.out (by kernel_rfl)) (fun _ _ _ h => h) (Or.inl ⟨by rfl, ?_⟩) hHeld ?_ ?_
                            rotate_left
                            · rintro w' ⟨s0, s1, s2, s3, s4, s5⟩
                              go_simp
                              with_reducible rfl
                            rotate_left
                            · simp only [Act.put, List.setIfInBounds_toArray, List.set_cons_zero, List.set_cons_succ, i64_w, i32_w]
                              rfl
                            refine take_ (i := 7) (N := some 108) (v := ?_) (a' := ?_) #[true, true, true, true, true, true, true, true, false, false, false] rfl rfl (take_ofW HT_.out HW_.out (by kernel_rfl)) (fun _ _ _ h => h) (Or.inl ⟨by rfl, ?_⟩) hHeld ?_ ?_
                            rotate_left
                            · rintro w' ⟨s0, s1, s2, s3, s4, s5⟩
                              go_simp
                              with_reducible rfl
                            rotate_left
                            · simp only [Act.put, List.setIfInBounds_toArray, List.set_cons_zero, List.set_cons_succ, i64_w, i32_w]
                              rfl
                            refine one_ (i := 8) (N := some 109) #[true, true, true, true, true, true, true, true, true, false, false] rfl rfl (one_of HT_.out (by kernel_rfl)) (by decide) (fun K hK => ?_)
                            refine goes_ Try.func10 (by kernel_rfl) rfl #[.agg #[.int .i64 t230, .slice Ao77 t231.length co77, .bool t234], .agg #[.int .i64 ((rd_T26 l0 x11_3).f0), .slice A238_1 ((rd_T26 l0 x11_3).f1).length c238_1, .bool ((rd_T26 l0 x11_3).f2)]] (by rfl) rfl rfl (by (try simp only [List.map_toArray, List.map_cons, List.map_nil]); first | done | rfl | (simp only [List.length_drop, List.length_take]; rfl)) ?_
                            with_reducible refine (garlandref08_Gram.calls t230 _ _ t231 t234 ((rd_T26 l0 x11_3).f0) _ _ ((rd_T26 l0 x11_3).f1) ((rd_T26 l0 x11_3).f2) true _ ?side1 ?side2 ?side3 ?side4 A64.out).mono ?_
                            (case side1 => repeat (first | exact (Kd.R_reads' HO233.out).2.2 | (with_reducible refine Kd.C_alloc ?_ _) | (with_reducible refine Kd.C_drewN ?_ _) | (with_reducible refine Kd.C_drew ?_)))
                            (case side2 => exact (Kd.R_reads' HO233.out).2.1)
                            (case side3 => repeat (first | exact (by repeat (first | (with_reducible exact HR238_1.out) | (with_reducible refine Kd.C_alloc ?_ _) | (with_reducible refine Kd.C_drewN ?_ _) | (with_reducible refine Kd.C_drew ?_) | exact HR238_1.out)) | (with_reducible refine Kd.C_alloc ?_ _) | (with_reducible refine Kd.C_drewN ?_ _) | (with_reducible refine Kd.C_drew ?_)))
                            (case side4 => exact HC238_1.out)
                            rintro e w80 ⟨rfl, hb⟩
                            have HS3_ := (hb.cell (World.block_lt_of_cell? _ _ (hHeld.2.2.2.1))).trans (hHeld.2.2.2.1)
                            have HS4_ := (hb.cell (World.block_lt_of_cell? _ _ (hHeld.2.2.2.2.1))).trans (hHeld.2.2.2.2.1)
                            have HS5_ := (hb.cell (World.block_lt_of_cell? _ _ (hHeld.2.2.2.2.2))).trans (hHeld.2.2.2.2.2)
                            refine ⟨_, rfl, ?_⟩
                            have n0_ := Aside0.mk (Kd.V_below (by (with_reducible repeat (first | apply Kd.V_alloc | apply Kd.V_drewN | apply Kd.V_drew)); exact HO_0.out) hb)
                            have n1_ := Aside0.mk (Kd.N_below (by (with_reducible repeat (first | apply Kd.N_alloc | apply Kd.N_drewN | apply Kd.N_drew)); exact HO_190000.out) hb)
                            have n2_ := Aside0.mk (Kd.N_below (by (with_reducible repeat (first | apply Kd.N_alloc | apply Kd.N_drewN | apply Kd.N_drew)); exact HO228.out) hb)
                            have n3_ := Aside0.mk (Kd.R_below (by (with_reducible repeat (first | apply Kd.R_alloc | apply Kd.R_drewN | apply Kd.R_drew)); exact HO233.out) hb)
                            have n4_ := Aside0.mk (Kd.V_below (by (with_reducible repeat (first | apply Kd.V_alloc | apply Kd.V_drewN | apply Kd.V_drew)); exact HL238_1.out) hb)
                            have n5_ := Aside0.mk (blk_below (g := gb189) (o := .cells #[.slice Ao67 x190000_3.length co67, .int .i64 x190001_3] 28 (0, 0)) (by (with_reducible repeat (first | refine blk_drewN ?_ _ | refine blk_drew ?_ | refine blk_alloc ?_ _)); exact BK189.out) hb)
                            have n6_ := Aside0.mk (blk_below (g := gb236) (o := .cells #[.slice Ao71 t226.length co71, .int .i64 t229] 28 (0, 0)) (by (with_reducible repeat (first | refine blk_drewN ?_ _ | refine blk_drew ?_ | refine blk_alloc ?_ _)); exact BK236.out) hb)
                            have n7_ := Aside0.mk (blk_below (g := gb237) (o := .cells #[.int .i64 t230, .slice Ao77 t231.length co77, .bool t234] 26 (0, 0)) (by (with_reducible repeat (first | refine blk_drewN ?_ _ | refine blk_drew ?_ | refine blk_alloc ?_ _)); exact BK237.out) hb)
                            have n8_ := Aside0.mk (Kd.C_below (by repeat (first | (with_reducible exact HR238_1.out) | (with_reducible refine Kd.C_alloc ?_ _) | (with_reducible refine Kd.C_drewN ?_ _) | (with_reducible refine Kd.C_drew ?_) | exact HR238_1.out)) hb)
                            have n9_ := Aside0.mk (below_step (by repeat (first | (with_reducible first | exact HB.out | apply below_alloc | apply pw_below_drewN | apply below_drew1 | refine below_set ?_ GE189.out | refine below_set ?_ GE236.out | refine below_set ?_ GE237.out) | exact HB.out)) hb)
                            clear HO_0
                            clear HO_190000
                            clear HO228
                            clear HO233
                            clear HL238_1
                            clear BK189
                            clear BK236
                            clear BK237
                            clear HR238_1
                            clear HB
                            have HO_0 := n0_
                            have HO_190000 := n1_
                            have HO228 := n2_
                            have HO233 := n3_
                            have HL238_1 := n4_
                            have BK189 := n5_
                            have BK236 := n6_
                            have BK237 := n7_
                            have HR238_1 := n8_
                            have HB := n9_
                            clear n0_ n1_ n2_ n3_ n4_ n5_ n6_ n7_ n8_ n9_
                            (try clear hb)
                            (try clear hb2)
                            (try clear hk)
                            (try clear hi)
                            refine hK.out _ _ ⟨(blk_cell BK237.out 0).trans rfl, (blk_cell BK237.out 1).trans rfl, (blk_cell BK237.out 2).trans rfl, HS3_, HS4_, HS5_⟩ (fun hHeld => ?_)
                            clear hK K
                            refine norm_ (a' := ?_) ?_ ?_
                            rotate_left
                            · show Act.put _ (some 109) _ = _
                              simp only [Act.put, List.setIfInBounds_toArray, List.set_cons_zero, List.set_cons_succ, i64_w, i32_w]
                              rfl
                            refine pure_ (i := 9) (N := some 110) (v := ?_) (a' := ?_) #[true, true, true, true, true, true, true, true, true, true, false] rfl rfl (any_of HT_.out (by kernel_rfl)) (fun _ _ _ h => h) (Or.inl ⟨by rfl, ?_⟩) ?_ ?_
                            rotate_left
                            · intro w'
                              go_simp
                              with_reducible rfl
                            rotate_left
                            · simp only [Act.put, List.setIfInBounds_toArray, List.set_cons_zero, List.set_cons_succ, i64_w, i32_w]
                              rfl
                            refine pure_ (i := 10) (N := some 111) (v := ?_) (a' := ?_) #[true, true, true, true, true, true, true, true, true, true, true] rfl rfl (any_of HT_.out (by kernel_rfl)) (fun _ _ _ h => h) (Or.inl ⟨by rfl, ?_⟩) ?_ ?_
                            rotate_left
                            · intro w'
                              go_simp
                              with_reducible rfl
                            rotate_left
                            · simp only [Act.put, List.setIfInBounds_toArray, List.set_cons_zero, List.set_cons_succ, i64_w, i32_w]
                              rfl
                            refine done_ (done_of HT_.out (by kernel_rfl)) ?_
                            have hcz81_0 : w80.cell? ⟨gb236, 0, none⟩ = some (.slice Ao71 t226.length co71) := (blk_cell BK236.out 0).trans rfl
                            have hcz81_1 : w80.cell? ⟨gb236, 1, none⟩ = some (.int .i64 t229) := (blk_cell BK236.out 1).trans rfl
                            have hfz81_0 := blk_frozen BK236.out 0
                            have hfz81_1 := blk_frozen BK236.out 1
                            have hcz82_0 : w80.cell? ⟨gb189, 0, none⟩ = some (.slice Ao67 x190000_3.length co67) := (blk_cell BK189.out 0).trans rfl
                            have hcz82_1 : w80.cell? ⟨gb189, 1, none⟩ = some (.int .i64 x190001_3) := (blk_cell BK189.out 1).trans rfl
                            have hfz82_0 := blk_frozen BK189.out 0
                            have hfz82_1 := blk_frozen BK189.out 1
                            try go_wp2
                            go_roundg k3
                            case measure => have := HK1.out; have := HJ13.out; have := HK3.out; omega
                            case rel => exact ⟨(wrap64 (x11_3 + 1)), (t226), (t229), (.slice Ao71 t226.length co71), (by first | rfl | (simp; done) | (simp [*]; done)), H', ⟨by have := HK1.out; have := HJ13.out; have := HK3.out; omega⟩, ⟨by (with_reducible repeat (first | apply Kd.V_alloc | apply Kd.V_drewN | apply Kd.V_drew)); exact Kd.V_mono (Kd.V_far (p := ⟨gb189, 1, none⟩) (Kd.V_far (p := ⟨gb189, 0, none⟩) (Kd.V_mono HO_0.out (fun k_ hk => (⟨hk, hk.2.2.2.2.1⟩ : _ ∧ k_ ≠ gb189))) (fun _ hk => hk.2) (.slice Ao71 t226.length co71)) (fun _ hk => hk.2) (.int .i64 t229)) (fun _ hk => ⟨hk.1.1, ⟨hk.1.2.2.1, hk.1.2.2.2.2.1⟩⟩)⟩, ⟨by (with_reducible repeat (first | apply Kd.N_alloc | apply Kd.N_drewN | apply Kd.N_drew)); exact Kd.N_mono (Kd.N_far (p := ⟨gb189, 1, none⟩) (Kd.N_far (p := ⟨gb189, 0, none⟩) (Kd.N_mono HO228.out (fun k_ hk => (⟨hk, hk.2.2.2.1⟩ : _ ∧ k_ ≠ gb189))) (fun _ hk => hk.2) (.slice Ao71 t226.length co71)) (fun _ hk => hk.2) (.int .i64 t229)) (fun _ hk => ⟨hk.1.1, hk.1.2.2.2.1⟩)⟩, ⟨by (with_reducible repeat (first | refine blk_drewN ?_ _ | refine blk_drew ?_ | refine blk_alloc ?_ _)); refine blk_put (cs := #[.slice Ao71 t226.length co71, .int .i64 x190001_3]) ?_ 1 _ rfl; (with_reducible repeat (first | refine blk_drewN ?_ _ | refine blk_drew ?_ | refine blk_alloc ?_ _)); refine blk_put (cs := #[.slice Ao67 x190000_3.length co67, .int .i64 x190001_3]) ?_ 0 _ rfl; (with_reducible repeat (first | refine blk_drewN ?_ _ | refine blk_drew ?_ | refine blk_alloc ?_ _)); exact BK189.out⟩, ⟨by repeat (first | (with_reducible first | exact HB.out | apply below_alloc | apply pw_below_drewN | apply below_drew1 | refine below_set ?_ GE189.out | refine below_set ?_ GE236.out | refine below_set ?_ GE237.out) | exact HB.out)⟩⟩
                          · replace c65 := Bool.eq_false_iff.mpr c65
                            subst c65
                            have H1 : (none) = some r := by rw [if_neg (show ¬ (false = true) by decide)] at H; exact H
                            clear H
                            have H := H1
                            clear H1
                            exact absurd H (by simp)
                        · rw [if_neg c63] at H
                          exact absurd H (by simp)
                      · replace c62 := Bool.eq_false_iff.mpr c62
                        subst c62
                        have H1 : (none) = some r := by rw [if_neg (show ¬ (false = true) by decide)] at H; exact H
                        clear H
                        have H := H1
                        clear H1
                        exact absurd H (by simp)
                    · rw [if_neg c60] at H
                      have c60b0 : decide (x11_3 < (l0.length : Int)) = false := decide_eq_false c60
                      clear c60
                      by_cases c83 : (x190000_3.length : Int) = 0
                      · rw [if_pos c83] at H
                        have c83b0 : ((x190000_3.length : Int) == 0) = true := beq_iff_eq.mpr c83
                        have c83b1 : ((x190000_3.length : Int) != 0) = false := bne_eq_false_iff_eq.mpr c83
                        clear c83
                        by_cases c84 : x190001_3 = 0
                        · rw [if_pos c84] at H
                          have c84b0 : (x190001_3 == 0) = true := beq_iff_eq.mpr c84
                          have c84b1 : (x190001_3 != 0) = false := bne_eq_false_iff_eq.mpr c84
                          clear c84
                          replace H := Option.bind_eq_some_iff.mp H
                          obtain ⟨t225, A850, H⟩ := H
                          replace H : (some t225) = some r := H
                          have A85 := Aside0.mk A850
                          clear A850
                          obtain rfl := Option.some.inj H
                          have hcz86_0 : wr.cell? ⟨gb189, 0, none⟩ = some (u190000) := (blk_cell BK189.out 0).trans rfl
                          have hcz86_1 : wr.cell? ⟨gb189, 1, none⟩ = some (.int .i64 x190001_3) := (blk_cell BK189.out 1).trans rfl
                          have hfz86_0 := blk_frozen BK189.out 0
                          have hfz86_1 := blk_frozen BK189.out 1
                          obtain ⟨Ao87, co87, eo87⟩ := Kd.N_slice HO_190000.out
                          subst eo87
                          go_wp2_with (first | (go_at_call 6; (with_reducible refine (garlandlaw08_wakes.calls k3  t225 _ A85.out).mono ?_); rintro e w88 ⟨rfl, hb⟩; have n0_ := Aside0.mk (Kd.V_below (by (with_reducible repeat (first | apply Kd.V_alloc | apply Kd.V_drewN | apply Kd.V_drew)); exact HO_0.out) hb); have n1_ := Aside0.mk (Kd.N_below (by (with_reducible repeat (first | apply Kd.N_alloc | apply Kd.N_drewN | apply Kd.N_drew)); exact HO_190000.out) hb); have n2_ := Aside0.mk (blk_below (g := gb189) (o := .cells #[.slice Ao87 x190000_3.length co87, .int .i64 x190001_3] 28 (0, 0)) (by (with_reducible repeat (first | refine blk_drewN ?_ _ | refine blk_drew ?_ | refine blk_alloc ?_ _)); exact BK189.out) hb); have n3_ := Aside0.mk (below_step (by repeat (first | (with_reducible first | exact HB.out | apply below_alloc | apply pw_below_drewN | apply below_drew1 | refine below_set ?_ GE189.out) | exact HB.out)) hb); clear HO_0; clear HO_190000; clear BK189; clear HB; have HO_0 := n0_; have HO_190000 := n1_; have BK189 := n2_; have HB := n3_; clear n0_ n1_ n2_ n3_; (try clear hb); (try clear hb2); (try clear hk); (try clear hi)))
                          go_ret
                          exact ⟨by first | rfl | (simp [errW_none, errW_some] <;> rfl) | (simp [*, errW_none, errW_some] <;> rfl), by repeat (first | (with_reducible first | exact HB.out | apply below_alloc | apply pw_below_drewN | apply below_drew1 | refine below_set ?_ GE189.out) | exact HB.out)⟩
                        · rw [if_neg c84] at H
                          exact absurd H (by simp)
                      · rw [if_neg c83] at H
                        exact absurd H (by simp)
          · replace c13 := Bool.eq_false_iff.mpr c13
            subst c13
            have H1 : (none) = some r := by rw [if_neg (show ¬ (false = true) by decide)] at H; exact H
            clear H
            have H := H1
            clear H1
            exact absurd H (by simp)

end Go.Proofs.Ytoookgkhelcngaa.G
