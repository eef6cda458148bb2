/- What BagOwn does: what it was handed stays as it was. -/
import Derived.Test.YtoookgkhelcngaaMath
import Derived.Test.YtoookgkhelcngaaG2
import Derived.Test.YtoookgkhelcngaaO0
import Derived.Deep.CutBlock
namespace Go.Proofs.Ytoookgkhelcngaa.G
open Go.RowKit Go.Proofs.YtoookgkhelcngaaW.PrintWords Go.Proofs.YtoookgkhelcngaaW.PrintLast Go.Proofs.YtoookgkhelcngaaW.PrintMore
attribute [local go_sem] max2_int min2_int max_two min_two max_three min_three max_four min_four   -- for this text's walks alone
set_option linter.unusedVariables false
set_option linter.unusedSimpArgs false

/-! ### garlandlaw08_BagOwn: function 4 -/
def garlandlaw08_BagOwn.j0 : Nat → Int → Int → Bool → List (S26) → Int → Int → List Int → Bool → Option (Bool)
  | 0, _, _, _, _, _, _, _, _ => none
  | k + 1, x2, x3, x39, x204000, x204001, x205000, x205001, x205002 => if x39 = true then ((garlandlaw08_wakes.f k).bind fun t206 => (some t206)) else ((garlandref08_Own.f k x204000 x204001).bind fun bt207 => ((some (([] : List Int) : List Int)).bind fun y212 => (if y212.length + x205001.length < 140737488355328 then ((bag_Send.f x204000 x204001 (([(⟨x205000, x205001, x205002⟩ : S26)] : List (S26)))).bind fun bt222 => ((bag_Take.f x204000 x204001 x2).bind fun bt227 => ((bag_Drop.f x204000 x204001 x2).bind fun bt239 => ((bag_Twice.f x204000 x204001 x2).bind fun bt245 => ((bag_Harm.f x204000 x204001 x2 x3 1).bind fun bt251 => ((bag_Own.f x204000 x204001).bind fun bt257 => ((garlandref08_Same.f k x204000 x204001 bt207.1 bt207.2).bind fun t264 => (if t264 = true then ((garlandref08_Gram.f x205000 x205001 x205002 x205000 (y212 ++ x205001) x205002).bind fun t265 => (if t265 = true then ((garlandlaw08_wakes.f k).bind fun t266 => (some t266)) else (none))) else (none))))))))) else (none))))
def garlandlaw08_BagOwn.f (k : Nat) (l0_0 : List (S26)) (a0_1 : Int) (a1_0 : Int) (l1_1 : List Int) (a1_2 : Bool) (a2 : Int) (a3 : Int) : Option (Bool) := if (l0_0.length : Int) > 40 then (garlandlaw08_BagOwn.j0 k a2 a3 true l0_0 a0_1 a1_0 l1_1 a1_2) else ((garlandref08_Great.f k l0_0 a0_1).bind fun t205 => (if t205 = true then (garlandlaw08_BagOwn.j0 k a2 a3 true l0_0 a0_1 a1_0 l1_1 a1_2) else (garlandlaw08_BagOwn.j0 k a2 a3 (decide ((l1_1.length : Int) > 300)) l0_0 a0_1 a1_0 l1_1 a1_2)))
theorem garlandlaw08_BagOwn.mono_l : ∀ k, (∀ y0 y1 y2 y3 y4 y5 y6 y7, LeO (garlandlaw08_BagOwn.j0 k y0 y1 y2 y3 y4 y5 y6 y7) (garlandlaw08_BagOwn.j0 (k + 1) y0 y1 y2 y3 y4 y5 y6 y7))
  | 0 => fun _ _ _ _ _ _ _ _ r h => by simp [garlandlaw08_BagOwn.j0] at h
  | k + 1 => by
    have ih0 := garlandlaw08_BagOwn.mono_l k
    · intro y0 y1 y2 y3 y4 y5 y6 y7
      unfold garlandlaw08_BagOwn.j0
      repeat' first
      | (with_reducible exact ih0 _ _ _ _ _ _ _ _)
      | (with_reducible exact garlandlaw08_wakes.mono _)
      | (with_reducible exact garlandref08_Great.mono _ _ _)
      | (with_reducible exact garlandref08_Own.mono _ _ _)
      | (with_reducible exact garlandref08_Same.mono _ _ _ _ _)
      | (with_reducible exact LeO.refl _)
      | (with_reducible exact LeO.none _)
      | (with_reducible refine LeO.ite ?_ ?_)
      | (with_reducible refine LeO.bind ?_ (fun _ => ?_))
      | exact ih0 _ _ _ _ _ _ _ _
      | exact garlandlaw08_wakes.mono _
      | exact garlandref08_Great.mono _ _ _
      | exact garlandref08_Own.mono _ _ _
      | exact garlandref08_Same.mono _ _ _ _ _
      | exact LeO.none _
      | refine LeO.ite ?_ ?_
      | refine LeO.bind ?_ (fun _ => ?_)
theorem garlandlaw08_BagOwn.mono : ∀ a0 a1 a2 a3 a4 a5 a6 k, LeO (garlandlaw08_BagOwn.f k a0 a1 a2 a3 a4 a5 a6) (garlandlaw08_BagOwn.f (k + 1) a0 a1 a2 a3 a4 a5 a6) := by
  intro a0 a1 a2 a3 a4 a5 a6 k
  have ih0 := garlandlaw08_BagOwn.mono_l k
  unfold garlandlaw08_BagOwn.f
  repeat' first
      | (with_reducible exact ih0 _ _ _ _ _ _ _ _)
      | (with_reducible exact garlandlaw08_wakes.mono _)
      | (with_reducible exact garlandref08_Great.mono _ _ _)
      | (with_reducible exact garlandref08_Own.mono _ _ _)
      | (with_reducible exact garlandref08_Same.mono _ _ _ _ _)
      | (with_reducible exact LeO.refl _)
      | (with_reducible exact LeO.none _)
      | (with_reducible refine LeO.ite ?_ ?_)
      | (with_reducible refine LeO.bind ?_ (fun _ => ?_))
      | exact ih0 _ _ _ _ _ _ _ _
      | exact garlandlaw08_wakes.mono _
      | exact garlandref08_Great.mono _ _ _
      | exact garlandref08_Own.mono _ _ _
      | exact garlandref08_Same.mono _ _ _ _ _
      | exact LeO.none _
      | refine LeO.ite ?_ ?_
      | refine LeO.bind ?_ (fun _ => ?_)
def garlandlaw08_BagOwn.T4 : Bool × List (List Nat × List Nat) := (true, [([], []), ([0], [0]), ([], []), ([], []), ([3], [3]), ([2, 4], [2, 4]), ([], []), ([6], [6]), ([1, 5, 7], [1, 5, 7]), ([], []), ([9, 8, 5, 0, 1, 2, 3, 4, 5, 6, 7, 8, 9], [8, 9])])
def garlandlaw08_BagOwn.B4 : List Nat := [0, 1, 0, 0, 8, 28, 0, 64, 255, 0, 1023]
theorem garlandlaw08_BagOwn.tab4 : rtab .any (opsOf Try.f4 4) = garlandlaw08_BagOwn.T4 := by kernel_rfl
theorem garlandlaw08_BagOwn.bits4 : waitsOk garlandlaw08_BagOwn.T4.2 garlandlaw08_BagOwn.B4 = true := by kernel_rfl
def garlandlaw08_BagOwn.T10 : Bool × List (List Nat × List Nat) := (true, [([], []), ([], []), ([], []), ([], []), ([], []), ([], []), ([5], [5]), ([0, 1, 2, 3, 4, 6], [0, 1, 2, 3, 4, 6]), ([7], [7]), ([], [])])
def garlandlaw08_BagOwn.B10 : List Nat := [0, 0, 0, 0, 0, 0, 32, 127, 255, 0]
theorem garlandlaw08_BagOwn.tab10 : rtab .any (opsOf Try.f4 10) = garlandlaw08_BagOwn.T10 := by kernel_rfl
theorem garlandlaw08_BagOwn.bits10 : waitsOk garlandlaw08_BagOwn.T10.2 garlandlaw08_BagOwn.B10 = true := by kernel_rfl
set_option maxHeartbeats 8000000 in
set_option maxRecDepth 100000 in
theorem garlandlaw08_BagOwn.calls (k : Nat) (A0_0 : Option Addr) (c0_0 : Nat) (l0_0 : List (S26)) (a0_1 : Int) (a1_0 : Int) (P1_1_ : Nat → Prop) (A1_1 : Option Addr) (c1_1 : Nat) (l1_1 : List Int) (a1_2 : Bool) (a2 : Int) (a3 : Int) (r : Bool) (w : World) (hr0_0 : Kd.C k26 w A0_0 l0_0.length l0_0) (hc0_0 : l0_0.length ≤ c0_0) (hs1_1 : Kd.V (Kd.int .u8) 5 w w.heap.size (fun k_ => P1_1_ k_) (.slice A1_1 l1_1.length c1_1) l1_1) (h : garlandlaw08_BagOwn.f k l0_0 a0_1 a1_0 l1_1 a1_2 a2 a3 = some r) :
    Calls Try.prog 4 #[.agg #[.slice A0_0 l0_0.length c0_0, .int .i64 a0_1], .agg #[.int .i64 a1_0, .slice A1_1 l1_1.length c1_1, .bool a1_2], .int .i64 a2, .int .i64 a3] w fun e w' => e = .returned (.bool r) ∧ Below w.heap.size w w' := by
  have hu28 := Try.underlying28
  have hu26 := Try.underlying26
  have HR0_0 := Aside0.mk hr0_0
  have HC0_0 := Aside0.mk hc0_0
  clear hr0_0 hc0_0
  have HO1_1 := Aside0.mk (show Kd.V (Kd.int .u8) 5 w w.heap.size (fun k_ => (P1_1_ k_ ∨ w.heap.size ≤ k_)) (.slice A1_1 l1_1.length c1_1) l1_1 from Kd.V_mono hs1_1 (fun k_ hk => .inl hk))
  have HB := Aside0.mk (Below.refl w.heap.size w)
  have H : (if (l0_0.length : Int) > 40 then (garlandlaw08_BagOwn.j0 k a2 a3 true l0_0 a0_1 a1_0 l1_1 a1_2) else ((garlandref08_Great.f k l0_0 a0_1).bind fun t205 => (if t205 = true then (garlandlaw08_BagOwn.j0 k a2 a3 true l0_0 a0_1 a1_0 l1_1 a1_2) else (garlandlaw08_BagOwn.j0 k a2 a3 (decide ((l1_1.length : Int) > 300)) l0_0 a0_1 a1_0 l1_1 a1_2)))) = some r := h
  clear h
  have HC5 := Aside0.mk H
  clear H
  go_enter Try.func4, Try.ntmps4
  go_upto_region 1 with (first | ((with_reducible refine gate_dst (N := 4) rfl ?_); (try (refine gate_guard (by rfl) ?_; dsimp only)); refine box_event ?hg (N := 4) ?hd (cs := #[.slice A0_0 l0_0.length c0_0, .int .i64 a0_1]) (t := 28) ?hr ?_; (case hd => rfl); (case hg => rfl); (case hr => first | (go_simp; done) | (go_simp; rfl)); intro gb203 hg w6 hbox hb; have n0_ := Aside0.mk (Kd.V_below (Kd.V_elderB (by (with_reducible repeat (first | apply Kd.V_alloc | apply Kd.V_drewN | apply Kd.V_drew)); exact HO1_1.out) gb203 (Nat.le_of_eq hg.symm)) hb); have n1_ := Aside0.mk (below_step (by repeat (first | (with_reducible first | exact HB.out | apply below_alloc | apply pw_below_drewN | apply below_drew1) | exact HB.out)) hb); have n2_ := Aside0.mk (hbox); have n3_ := Aside0.mk ((by rw [hg]; exact (below_size (by repeat (first | (with_reducible first | exact HB.out | apply below_alloc | apply pw_below_drewN | apply below_drew1) | exact HB.out))) : w.heap.size ≤ gb203)); have n4_ := Aside0.mk ((by rw [hg]; exact (below_size (by repeat (first | (with_reducible first | exact HB.out | apply below_alloc | apply pw_below_drewN | apply below_drew1) | exact HB.out))) : w.heap.size ≤ gb203)); clear HO1_1; clear HB; have HO1_1 := n0_; have HB := n1_; have BK203 := n2_; have GW203 := n3_; have GE203 := n4_; clear n0_ n1_ n2_ n3_ n4_; clear hb hbox hg) | ((with_reducible refine gate_dst (N := 5) rfl ?_); (try (refine gate_guard (by rfl) ?_; dsimp only)); refine box_event ?hg (N := 5) ?hd (cs := #[.int .i64 a1_0, .slice A1_1 l1_1.length c1_1, .bool a1_2]) (t := 26) ?hr ?_; (case hd => rfl); (case hg => rfl); (case hr => first | (go_simp; done) | (go_simp; rfl)); intro gb204 hg w7 hbox hb; have n0_ := Aside0.mk (Kd.V_below (Kd.V_elderB (by (with_reducible repeat (first | apply Kd.V_alloc | apply Kd.V_drewN | apply Kd.V_drew)); exact HO1_1.out) gb204 (Nat.le_of_eq hg.symm)) hb); have n1_ := Aside0.mk (blk_below (g := gb203) (o := .cells #[.slice A0_0 l0_0.length c0_0, .int .i64 a0_1] 28 (0, 0)) (by (with_reducible repeat (first | refine blk_drewN ?_ _ | refine blk_drew ?_ | refine blk_alloc ?_ _)); exact BK203.out) hb); have n2_ := Aside0.mk (below_step (by repeat (first | (with_reducible first | exact HB.out | apply below_alloc | apply pw_below_drewN | apply below_drew1 | refine below_set ?_ GE203.out) | exact HB.out)) hb); have n3_ := Aside0.mk (hbox); have n4_ := Aside0.mk ((by rw [hg]; exact (below_size (by repeat (first | (with_reducible first | exact HB.out | apply below_alloc | apply pw_below_drewN | apply below_drew1 | refine below_set ?_ GE203.out) | exact HB.out))) : w.heap.size ≤ gb204)); have n5_ := Aside0.mk ((by rw [hg]; exact (below_size (by repeat (first | (with_reducible first | exact HB.out | apply below_alloc | apply pw_below_drewN | apply below_drew1 | refine below_set ?_ GE203.out) | exact HB.out))) : w.heap.size ≤ gb204)); have n6_ := Aside0.mk ((by rw [hg]; exact Nat.ne_of_lt (blk_lt (g := gb203) (o := .cells #[.slice A0_0 l0_0.length c0_0, .int .i64 a0_1] 28 (0, 0)) (by (with_reducible repeat (first | refine blk_drewN ?_ _ | refine blk_drew ?_ | refine blk_alloc ?_ _)); exact BK203.out)) : gb203 ≠ gb204)); have n7_ := Aside0.mk ((by rw [hg]; exact Nat.ne_of_gt (blk_lt (g := gb203) (o := .cells #[.slice A0_0 l0_0.length c0_0, .int .i64 a0_1] 28 (0, 0)) (by (with_reducible repeat (first | refine blk_drewN ?_ _ | refine blk_drew ?_ | refine blk_alloc ?_ _)); exact BK203.out)) : gb204 ≠ gb203)); clear HO1_1; clear BK203; clear HB; have HO1_1 := n0_; have BK203 := n1_; have HB := n2_; have BK204 := n3_; have GW204 := n4_; have GE204 := n5_; have NB203_204 := n6_; have NB204_203 := n7_; clear n0_ n1_ n2_ n3_ n4_ n5_ n6_ n7_; clear hb hbox hg))
  (try simp only [Act.put, List.setIfInBounds_toArray, List.set_cons_zero, List.set_cons_succ])
  go_cut [39] (fun v39 wc => ∃ (kq : Nat) (x39_4 : Bool), v39 = .bool x39_4 ∧ Aside0 (garlandlaw08_BagOwn.j0 kq a2 a3 x39_4 l0_0 a0_1 a1_0 l1_1 a1_2 = some r) ∧ Aside0 (kq ≤ k) ∧ Aside0 (Kd.V (Kd.int .u8) 5 wc w.heap.size (fun k_ => (P1_1_ k_ ∨ w.heap.size ≤ k_) ∧ k_ ≠ gb203 ∧ k_ ≠ gb204) (.slice A1_1 l1_1.length c1_1) l1_1) ∧ Aside0 (wc.heap[gb203]? = some (.cells #[(.slice A0_0 l0_0.length c0_0), .int .i64 a0_1] 28 (0, 0))) ∧ Aside0 (wc.heap[gb204]? = some (.cells #[.int .i64 a1_0, (.slice A1_1 l1_1.length c1_1), .bool a1_2] 26 (0, 0))) ∧ Aside0 (Below w.heap.size w wc))
  case first =>
    have H := HC5.out
    clear HC5
    by_cases c8 : (l0_0.length : Int) > 40
    · rw [if_pos c8] at H
      have c8b0 : decide (40 < (l0_0.length : Int)) = true := decide_eq_true c8
      have c8b1 : decide (40 < l0_0.length) = true := decide_eq_true (by omega)
      clear c8
      (first | rw [c8b0] | (simp only [i64_w, i32_w]; rw [c8b0]) | skip)
      have H' := Aside0.mk H
      clear H
      have hnb9 := NB203_204.out
      have hnc9 := NB204_203.out
      have hcz10_0 : w7.cell? ⟨gb203, 0, none⟩ = some (.slice A0_0 l0_0.length c0_0) := (blk_cell BK203.out 0).trans rfl
      have hcz10_1 : w7.cell? ⟨gb203, 1, none⟩ = some (.int .i64 a0_1) := (blk_cell BK203.out 1).trans rfl
      have hfz10_0 := blk_frozen BK203.out 0
      have hfz10_1 := blk_frozen BK203.out 1
      go_wp2
      go_meet
      case rel => exact ⟨_, (true), (by first | rfl | (simp; done) | (simp [*]; done)), H', ⟨by first | omega | exact Nat.le_refl _⟩, ⟨by (with_reducible repeat (first | apply Kd.V_alloc | apply Kd.V_drewN | apply Kd.V_drew)); exact Kd.V_mono HO1_1.out (fun _ hk => ⟨hk.1.1, ⟨hk.1.2, hk.2⟩⟩)⟩, ⟨by (with_reducible repeat (first | refine blk_drewN ?_ _ | refine blk_drew ?_ | refine blk_alloc ?_ _)); exact BK203.out⟩, ⟨by (with_reducible repeat (first | refine blk_drewN ?_ _ | refine blk_drew ?_ | refine blk_alloc ?_ _)); exact BK204.out⟩, ⟨by repeat (first | (with_reducible first | exact HB.out | apply below_alloc | apply pw_below_drewN | apply below_drew1 | refine below_set ?_ GE203.out | refine below_set ?_ GE204.out) | exact HB.out)⟩⟩
    · rw [if_neg c8] at H
      have c8b0 : decide (40 < (l0_0.length : Int)) = false := decide_eq_false c8
      have c8b1 : decide (40 < l0_0.length) = false := decide_eq_false (by omega)
      clear c8
      (first | rw [c8b0] | (simp only [i64_w, i32_w]; rw [c8b0]) | skip)
      replace H := Option.bind_eq_some_iff.mp H
      obtain ⟨t205, A110, H⟩ := H
      replace H : (if t205 = true then (garlandlaw08_BagOwn.j0 k a2 a3 true l0_0 a0_1 a1_0 l1_1 a1_2) else (garlandlaw08_BagOwn.j0 k a2 a3 (decide ((l1_1.length : Int) > 300)) l0_0 a0_1 a1_0 l1_1 a1_2)) = some r := H
      have A11 := Aside0.mk A110
      clear A110
      by_cases c12 : t205 = true
      · subst c12
        have H1 : (garlandlaw08_BagOwn.j0 k a2 a3 true l0_0 a0_1 a1_0 l1_1 a1_2) = some r := by rw [if_pos rfl] at H; exact H
        clear H
        have H := H1
        clear H1
        have H' := Aside0.mk H
        clear H
        have hnb13 := NB203_204.out
        have hnc13 := NB204_203.out
        have hcz14_0 : w7.cell? ⟨gb203, 0, none⟩ = some (.slice A0_0 l0_0.length c0_0) := (blk_cell BK203.out 0).trans rfl
        have hcz14_1 : w7.cell? ⟨gb203, 1, none⟩ = some (.int .i64 a0_1) := (blk_cell BK203.out 1).trans rfl
        have hfz14_0 := blk_frozen BK203.out 0
        have hfz14_1 := blk_frozen BK203.out 1
        go_wp2_with (first | (go_at_call 11; (with_reducible refine (garlandref08_Great.calls k _ _ l0_0 a0_1 true _ ?side1 ?side2 A11.out).mono ?_); (case side1 => repeat (first | exact (Kd.C_below HR0_0.out HB.out) | (with_reducible refine Kd.C_alloc ?_ _) | (with_reducible refine Kd.C_drewN ?_ _) | (with_reducible refine Kd.C_drew ?_))); (case side2 => exact HC0_0.out); rintro e w15 ⟨rfl, hb⟩; have n0_ := Aside0.mk (Kd.V_below (by (with_reducible repeat (first | apply Kd.V_alloc | apply Kd.V_drewN | apply Kd.V_drew)); exact HO1_1.out) hb); have n1_ := Aside0.mk (blk_below (g := gb203) (o := .cells #[.slice A0_0 l0_0.length c0_0, .int .i64 a0_1] 28 (0, 0)) (by (with_reducible repeat (first | refine blk_drewN ?_ _ | refine blk_drew ?_ | refine blk_alloc ?_ _)); exact BK203.out) hb); have n2_ := Aside0.mk (blk_below (g := gb204) (o := .cells #[.int .i64 a1_0, .slice A1_1 l1_1.length c1_1, .bool a1_2] 26 (0, 0)) (by (with_reducible repeat (first | refine blk_drewN ?_ _ | refine blk_drew ?_ | refine blk_alloc ?_ _)); exact BK204.out) hb); have n3_ := Aside0.mk (below_step (by repeat (first | (with_reducible first | exact HB.out | apply below_alloc | apply pw_below_drewN | apply below_drew1 | refine below_set ?_ GE203.out | refine below_set ?_ GE204.out) | exact HB.out)) hb); clear HO1_1; clear BK203; clear BK204; clear HB; have HO1_1 := n0_; have BK203 := n1_; have BK204 := n2_; have HB := n3_; clear n0_ n1_ n2_ n3_; (try clear hb); (try clear hb2); (try clear hk); (try clear hi)))
        go_meet
        case rel => exact ⟨_, (true), (by first | rfl | (simp; done) | (simp [*]; done)), H', ⟨by first | omega | exact Nat.le_refl _⟩, ⟨by (with_reducible repeat (first | apply Kd.V_alloc | apply Kd.V_drewN | apply Kd.V_drew)); exact Kd.V_mono HO1_1.out (fun _ hk => ⟨hk.1.1, ⟨hk.1.2, hk.2⟩⟩)⟩, ⟨by (with_reducible repeat (first | refine blk_drewN ?_ _ | refine blk_drew ?_ | refine blk_alloc ?_ _)); exact BK203.out⟩, ⟨by (with_reducible repeat (first | refine blk_drewN ?_ _ | refine blk_drew ?_ | refine blk_alloc ?_ _)); exact BK204.out⟩, ⟨by repeat (first | (with_reducible first | exact HB.out | apply below_alloc | apply pw_below_drewN | apply below_drew1 | refine below_set ?_ GE203.out | refine below_set ?_ GE204.out) | exact HB.out)⟩⟩
      · replace c12 := Bool.eq_false_iff.mpr c12
        subst c12
        have H1 : (garlandlaw08_BagOwn.j0 k a2 a3 (decide ((l1_1.length : Int) > 300)) l0_0 a0_1 a1_0 l1_1 a1_2) = some r := by rw [if_neg (show ¬ (false = true) by decide)] at H; exact H
        clear H
        have H := H1
        clear H1
        have H' := Aside0.mk H
        clear H
        have hnb16 := NB203_204.out
        have hnc16 := NB204_203.out
        have hcz17_0 : w7.cell? ⟨gb203, 0, none⟩ = some (.slice A0_0 l0_0.length c0_0) := (blk_cell BK203.out 0).trans rfl
        have hcz17_1 : w7.cell? ⟨gb203, 1, none⟩ = some (.int .i64 a0_1) := (blk_cell BK203.out 1).trans rfl
        have hfz17_0 := blk_frozen BK203.out 0
        have hfz17_1 := blk_frozen BK203.out 1
        go_wp2_with (first | (go_at_call 11; (with_reducible refine (garlandref08_Great.calls k _ _ l0_0 a0_1 false _ ?side1 ?side2 A11.out).mono ?_); (case side1 => repeat (first | exact (Kd.C_below HR0_0.out HB.out) | (with_reducible refine Kd.C_alloc ?_ _) | (with_reducible refine Kd.C_drewN ?_ _) | (with_reducible refine Kd.C_drew ?_))); (case side2 => exact HC0_0.out); rintro e w18 ⟨rfl, hb⟩; have n0_ := Aside0.mk (Kd.V_below (by (with_reducible repeat (first | apply Kd.V_alloc | apply Kd.V_drewN | apply Kd.V_drew)); exact HO1_1.out) hb); have n1_ := Aside0.mk (blk_below (g := gb203) (o := .cells #[.slice A0_0 l0_0.length c0_0, .int .i64 a0_1] 28 (0, 0)) (by (with_reducible repeat (first | refine blk_drewN ?_ _ | refine blk_drew ?_ | refine blk_alloc ?_ _)); exact BK203.out) hb); have n2_ := Aside0.mk (blk_below (g := gb204) (o := .cells #[.int .i64 a1_0, .slice A1_1 l1_1.length c1_1, .bool a1_2] 26 (0, 0)) (by (with_reducible repeat (first | refine blk_drewN ?_ _ | refine blk_drew ?_ | refine blk_alloc ?_ _)); exact BK204.out) hb); have n3_ := Aside0.mk (below_step (by repeat (first | (with_reducible first | exact HB.out | apply below_alloc | apply pw_below_drewN | apply below_drew1 | refine below_set ?_ GE203.out | refine below_set ?_ GE204.out) | exact HB.out)) hb); clear HO1_1; clear BK203; clear BK204; clear HB; have HO1_1 := n0_; have BK203 := n1_; have BK204 := n2_; have HB := n3_; clear n0_ n1_ n2_ n3_; (try clear hb); (try clear hb2); (try clear hk); (try clear hi); have hcz19_0 : w18.cell? ⟨gb204, 0, none⟩ = some (.int .i64 a1_0) := (blk_cell BK204.out 0).trans rfl; have hcz19_1 : w18.cell? ⟨gb204, 1, none⟩ = some (.slice A1_1 l1_1.length c1_1) := (blk_cell BK204.out 1).trans rfl; have hcz19_2 : w18.cell? ⟨gb204, 2, none⟩ = some (.bool a1_2) := (blk_cell BK204.out 2).trans rfl; have hfz19_0 := blk_frozen BK204.out 0; have hfz19_1 := blk_frozen BK204.out 1; have hfz19_2 := blk_frozen BK204.out 2))
        go_meet
        case rel => exact ⟨_, (decide ((l1_1.length : Int) > 300)), (by first | rfl | (simp; done) | (simp [*]; done)), H', ⟨by first | omega | exact Nat.le_refl _⟩, ⟨by (with_reducible repeat (first | apply Kd.V_alloc | apply Kd.V_drewN | apply Kd.V_drew)); exact Kd.V_mono HO1_1.out (fun _ hk => ⟨hk.1.1, ⟨hk.1.2, hk.2⟩⟩)⟩, ⟨by (with_reducible repeat (first | refine blk_drewN ?_ _ | refine blk_drew ?_ | refine blk_alloc ?_ _)); exact BK203.out⟩, ⟨by (with_reducible repeat (first | refine blk_drewN ?_ _ | refine blk_drew ?_ | refine blk_alloc ?_ _)); exact BK204.out⟩, ⟨by repeat (first | (with_reducible first | exact HB.out | apply below_alloc | apply pw_below_drewN | apply below_drew1 | refine below_set ?_ GE203.out | refine below_set ?_ GE204.out) | exact HB.out)⟩⟩
  case rest =>
    clear HC5
    try clear c1
    try clear p2
    try clear c4
    try clear c8
    try clear c8b0
    try clear c8b1
    try clear c9
    try clear c12
    try clear c13
    try clear c16
    try clear hcz10_0
    try clear hcz10_1
    try clear hcz14_0
    try clear hcz14_1
    try clear hcz17_0
    try clear hcz17_1
    try clear hcz19_0
    try clear hcz19_1
    try clear hcz19_2
    try clear hfz10_0
    try clear hfz10_1
    try clear hfz14_0
    try clear hfz14_1
    try clear hfz17_0
    try clear hfz17_1
    try clear hfz19_0
    try clear hfz19_1
    try clear hfz19_2
    obtain ⟨kq, x39_4, rfl, HA, HJ4, HO_205001, BK203, BK204, HB⟩ := hcut
    cases kq with
    | zero => exact absurd HA.out (by simp [garlandlaw08_BagOwn.j0])
    | succ kj4 =>
      have H := HA.out
      clear HA
      simp only [garlandlaw08_BagOwn.j0] at H
      by_cases c20 : x39_4 = true
      · subst c20
        have H1 : ((garlandlaw08_wakes.f kj4).bind fun t206 => (some t206)) = some r := by rw [if_pos rfl] at H; exact H
        clear H
        have H := H1
        clear H1
        replace H := Option.bind_eq_some_iff.mp H
        obtain ⟨t206, A210, H⟩ := H
        replace H : (some t206) = some r := H
        have A21 := Aside0.mk A210
        clear A210
        obtain rfl := Option.some.inj H
        go_wp2_with (first | ((with_reducible refine gate_callee (f := 6) rfl ?_); refine goesL_ (some 40) rfl rfl Try.func6 (by kernel_rfl) rfl #[] rfl (by (try simp only [List.map_toArray, List.map_cons, List.map_nil]); first | done | rfl | (simp only [List.length_drop, List.length_take]; rfl)) ?_; (with_reducible refine (garlandlaw08_wakes.calls kj4  t206 _ A21.out).mono ?_); rintro e w22 ⟨rfl, hb⟩; refine ⟨_, rfl, ?_⟩; have n0_ := Aside0.mk (Kd.V_below (by (with_reducible repeat (first | apply Kd.V_alloc | apply Kd.V_drewN | apply Kd.V_drew)); exact HO_205001.out) hb); have n1_ := Aside0.mk (blk_below (g := gb203) (o := .cells #[.slice A0_0 l0_0.length c0_0, .int .i64 a0_1] 28 (0, 0)) (by (with_reducible repeat (first | refine blk_drewN ?_ _ | refine blk_drew ?_ | refine blk_alloc ?_ _)); exact BK203.out) hb); have n2_ := Aside0.mk (blk_below (g := gb204) (o := .cells #[.int .i64 a1_0, .slice A1_1 l1_1.length c1_1, .bool a1_2] 26 (0, 0)) (by (with_reducible repeat (first | refine blk_drewN ?_ _ | refine blk_drew ?_ | refine blk_alloc ?_ _)); exact BK204.out) hb); have n3_ := Aside0.mk (below_step (by repeat (first | (with_reducible first | exact HB.out | apply below_alloc | apply pw_below_drewN | apply below_drew1 | refine below_set ?_ GE203.out | refine below_set ?_ GE204.out) | exact HB.out)) hb); clear HO_205001; clear BK203; clear BK204; clear HB; have HO_205001 := n0_; have BK203 := n1_; have BK204 := n2_; have HB := n3_; clear n0_ n1_ n2_ n3_; (try clear hb); (try clear hb2); (try clear hk); (try clear hi)))
        go_ret
        exact ⟨by first | rfl | (simp [errW_none, errW_some] <;> rfl) | (simp [*, errW_none, errW_some] <;> rfl), by repeat (first | (with_reducible first | exact HB.out | apply below_alloc | apply pw_below_drewN | apply below_drew1 | refine below_set ?_ GE203.out | refine below_set ?_ GE204.out) | exact HB.out)⟩
      · replace c20 := Bool.eq_false_iff.mpr c20
        subst c20
        have H1 : ((garlandref08_Own.f kj4 l0_0 a0_1).bind fun bt207 => ((some (([] : List Int) : List Int)).bind fun y212 => (if y212.length + l1_1.length < 140737488355328 then ((bag_Send.f l0_0 a0_1 (([(⟨a1_0, l1_1, a1_2⟩ : S26)] : List (S26)))).bind fun bt222 => ((bag_Take.f l0_0 a0_1 a2).bind fun bt227 => ((bag_Drop.f l0_0 a0_1 a2).bind fun bt239 => ((bag_Twice.f l0_0 a0_1 a2).bind fun bt245 => ((bag_Harm.f l0_0 a0_1 a2 a3 1).bind fun bt251 => ((bag_Own.f l0_0 a0_1).bind fun bt257 => ((garlandref08_Same.f kj4 l0_0 a0_1 bt207.1 bt207.2).bind fun t264 => (if t264 = true then ((garlandref08_Gram.f a1_0 l1_1 a1_2 a1_0 (y212 ++ l1_1) a1_2).bind fun t265 => (if t265 = true then ((garlandlaw08_wakes.f kj4).bind fun t266 => (some t266)) else (none))) else (none))))))))) else (none)))) = some r := by rw [if_neg (show ¬ (false = true) by decide)] at H; exact H
        clear H
        have H := H1
        clear H1
        replace H := Option.bind_eq_some_iff.mp H
        obtain ⟨⟨t207, t210⟩, A230, H⟩ := H
        replace H : ((some (([] : List Int) : List Int)).bind fun y212 => (if y212.length + l1_1.length < 140737488355328 then ((bag_Send.f l0_0 a0_1 (([(⟨a1_0, l1_1, a1_2⟩ : S26)] : List (S26)))).bind fun bt222 => ((bag_Take.f l0_0 a0_1 a2).bind fun bt227 => ((bag_Drop.f l0_0 a0_1 a2).bind fun bt239 => ((bag_Twice.f l0_0 a0_1 a2).bind fun bt245 => ((bag_Harm.f l0_0 a0_1 a2 a3 1).bind fun bt251 => ((bag_Own.f l0_0 a0_1).bind fun bt257 => ((garlandref08_Same.f kj4 l0_0 a0_1 t207 t210).bind fun t264 => (if t264 = true then ((garlandref08_Gram.f a1_0 l1_1 a1_2 a1_0 (y212 ++ l1_1) a1_2).bind fun t265 => (if t265 = true then ((garlandlaw08_wakes.f kj4).bind fun t266 => (some t266)) else (none))) else (none))))))))) else (none))) = some r := H
        have A23 := Aside0.mk A230
        clear A230
        obtain ⟨y212, hy212⟩ : ∃ y_ : List Int, y_ = (([] : List Int)) := ⟨_, rfl⟩
        replace H : (if y212.length + l1_1.length < 140737488355328 then ((bag_Send.f l0_0 a0_1 (([(⟨a1_0, l1_1, a1_2⟩ : S26)] : List (S26)))).bind fun bt222 => ((bag_Take.f l0_0 a0_1 a2).bind fun bt227 => ((bag_Drop.f l0_0 a0_1 a2).bind fun bt239 => ((bag_Twice.f l0_0 a0_1 a2).bind fun bt245 => ((bag_Harm.f l0_0 a0_1 a2 a3 1).bind fun bt251 => ((bag_Own.f l0_0 a0_1).bind fun bt257 => ((garlandref08_Same.f kj4 l0_0 a0_1 t207 t210).bind fun t264 => (if t264 = true then ((garlandref08_Gram.f a1_0 l1_1 a1_2 a1_0 (y212 ++ l1_1) a1_2).bind fun t265 => (if t265 = true then ((garlandlaw08_wakes.f kj4).bind fun t266 => (some t266)) else (none))) else (none))))))))) else (none)) = some r := by first | (rw [hy212]; with_reducible exact H) | (have H2_ := (Option.bind_some _ _).symm.trans H; rw [hy212]; with_reducible exact H2_) | (have H2_ := (Option.bind_some _ _).symm.trans H; with_reducible exact H2_) | with_reducible exact H | (rw [hy212]; exact H) | exact H
        have Ny212 := Aside0.mk hy212
        clear hy212
        by_cases c24 : y212.length + l1_1.length < 140737488355328
        · rw [if_pos c24] at H
          have LMc24 := Aside0.mk c24
          clear c24
          obtain ⟨y215, hy215⟩ : ∃ y_ : List Int, y_ = (y212 ++ l1_1) := ⟨_, rfl⟩
          replace H : ((bag_Send.f l0_0 a0_1 (([(⟨a1_0, l1_1, a1_2⟩ : S26)] : List (S26)))).bind fun bt222 => ((bag_Take.f l0_0 a0_1 a2).bind fun bt227 => ((bag_Drop.f l0_0 a0_1 a2).bind fun bt239 => ((bag_Twice.f l0_0 a0_1 a2).bind fun bt245 => ((bag_Harm.f l0_0 a0_1 a2 a3 1).bind fun bt251 => ((bag_Own.f l0_0 a0_1).bind fun bt257 => ((garlandref08_Same.f kj4 l0_0 a0_1 t207 t210).bind fun t264 => (if t264 = true then ((garlandref08_Gram.f a1_0 l1_1 a1_2 a1_0 y215 a1_2).bind fun t265 => (if t265 = true then ((garlandlaw08_wakes.f kj4).bind fun t266 => (some t266)) else (none))) else (none))))))))) = some r := by first | (rw [hy215]; with_reducible exact H) | (have H2_ := (Option.bind_some _ _).symm.trans H; rw [hy215]; with_reducible exact H2_) | (have H2_ := (Option.bind_some _ _).symm.trans H; with_reducible exact H2_) | with_reducible exact H | (rw [hy215]; exact H) | exact H
          have Ny215 := Aside0.mk hy215
          clear hy215
          obtain ⟨y219, hy219⟩ : ∃ y_ : List (S26), y_ = (([(⟨a1_0, l1_1, a1_2⟩ : S26)] : List (S26))) := ⟨_, rfl⟩
          replace H : ((bag_Send.f l0_0 a0_1 y219).bind fun bt222 => ((bag_Take.f l0_0 a0_1 a2).bind fun bt227 => ((bag_Drop.f l0_0 a0_1 a2).bind fun bt239 => ((bag_Twice.f l0_0 a0_1 a2).bind fun bt245 => ((bag_Harm.f l0_0 a0_1 a2 a3 1).bind fun bt251 => ((bag_Own.f l0_0 a0_1).bind fun bt257 => ((garlandref08_Same.f kj4 l0_0 a0_1 t207 t210).bind fun t264 => (if t264 = true then ((garlandref08_Gram.f a1_0 l1_1 a1_2 a1_0 y215 a1_2).bind fun t265 => (if t265 = true then ((garlandlaw08_wakes.f kj4).bind fun t266 => (some t266)) else (none))) else (none))))))))) = some r := by first | (rw [hy219]; with_reducible exact H) | (have H2_ := (Option.bind_some _ _).symm.trans H; rw [hy219]; with_reducible exact H2_) | (have H2_ := (Option.bind_some _ _).symm.trans H; with_reducible exact H2_) | with_reducible exact H | (rw [hy219]; exact H) | exact H
          have Ny219 := Aside0.mk hy219
          clear hy219
          replace H := Option.bind_eq_some_iff.mp H
          obtain ⟨⟨t222, t225⟩, A250, H⟩ := H
          replace H : ((bag_Take.f l0_0 a0_1 a2).bind fun bt227 => ((bag_Drop.f l0_0 a0_1 a2).bind fun bt239 => ((bag_Twice.f l0_0 a0_1 a2).bind fun bt245 => ((bag_Harm.f l0_0 a0_1 a2 a3 1).bind fun bt251 => ((bag_Own.f l0_0 a0_1).bind fun bt257 => ((garlandref08_Same.f kj4 l0_0 a0_1 t207 t210).bind fun t264 => (if t264 = true then ((garlandref08_Gram.f a1_0 l1_1 a1_2 a1_0 y215 a1_2).bind fun t265 => (if t265 = true then ((garlandlaw08_wakes.f kj4).bind fun t266 => (some t266)) else (none))) else (none)))))))) = some r := H
          have A25 := Aside0.mk A250
          clear A250
          replace H := Option.bind_eq_some_iff.mp H
          obtain ⟨⟨t227, t230, t231, t232, t235, t236⟩, A260, H⟩ := H
          replace H : ((bag_Drop.f l0_0 a0_1 a2).bind fun bt239 => ((bag_Twice.f l0_0 a0_1 a2).bind fun bt245 => ((bag_Harm.f l0_0 a0_1 a2 a3 1).bind fun bt251 => ((bag_Own.f l0_0 a0_1).bind fun bt257 => ((garlandref08_Same.f kj4 l0_0 a0_1 t207 t210).bind fun t264 => (if t264 = true then ((garlandref08_Gram.f a1_0 l1_1 a1_2 a1_0 y215 a1_2).bind fun t265 => (if t265 = true then ((garlandlaw08_wakes.f kj4).bind fun t266 => (some t266)) else (none))) else (none))))))) = some r := H
          have A26 := Aside0.mk A260
          clear A260
          replace H := Option.bind_eq_some_iff.mp H
          obtain ⟨⟨t239, t242, t243⟩, A270, H⟩ := H
          replace H : ((bag_Twice.f l0_0 a0_1 a2).bind fun bt245 => ((bag_Harm.f l0_0 a0_1 a2 a3 1).bind fun bt251 => ((bag_Own.f l0_0 a0_1).bind fun bt257 => ((garlandref08_Same.f kj4 l0_0 a0_1 t207 t210).bind fun t264 => (if t264 = true then ((garlandref08_Gram.f a1_0 l1_1 a1_2 a1_0 y215 a1_2).bind fun t265 => (if t265 = true then ((garlandlaw08_wakes.f kj4).bind fun t266 => (some t266)) else (none))) else (none)))))) = some r := H
          have A27 := Aside0.mk A270
          clear A270
          replace H := Option.bind_eq_some_iff.mp H
          obtain ⟨⟨t245, t248, t249⟩, A280, H⟩ := H
          replace H : ((bag_Harm.f l0_0 a0_1 a2 a3 1).bind fun bt251 => ((bag_Own.f l0_0 a0_1).bind fun bt257 => ((garlandref08_Same.f kj4 l0_0 a0_1 t207 t210).bind fun t264 => (if t264 = true then ((garlandref08_Gram.f a1_0 l1_1 a1_2 a1_0 y215 a1_2).bind fun t265 => (if t265 = true then ((garlandlaw08_wakes.f kj4).bind fun t266 => (some t266)) else (none))) else (none))))) = some r := H
          have A28 := Aside0.mk A280
          clear A280
          replace H := Option.bind_eq_some_iff.mp H
          obtain ⟨⟨t251, t254, t255⟩, A290, H⟩ := H
          replace H : ((bag_Own.f l0_0 a0_1).bind fun bt257 => ((garlandref08_Same.f kj4 l0_0 a0_1 t207 t210).bind fun t264 => (if t264 = true then ((garlandref08_Gram.f a1_0 l1_1 a1_2 a1_0 y215 a1_2).bind fun t265 => (if t265 = true then ((garlandlaw08_wakes.f kj4).bind fun t266 => (some t266)) else (none))) else (none)))) = some r := H
          have A29 := Aside0.mk A290
          clear A290
          replace H := Option.bind_eq_some_iff.mp H
          obtain ⟨⟨t257, t260⟩, A300, H⟩ := H
          replace H : ((garlandref08_Same.f kj4 l0_0 a0_1 t207 t210).bind fun t264 => (if t264 = true then ((garlandref08_Gram.f a1_0 l1_1 a1_2 a1_0 y215 a1_2).bind fun t265 => (if t265 = true then ((garlandlaw08_wakes.f kj4).bind fun t266 => (some t266)) else (none))) else (none))) = some r := H
          have A30 := Aside0.mk A300
          clear A300
          replace H := Option.bind_eq_some_iff.mp H
          obtain ⟨t264, A310, H⟩ := H
          replace H : (if t264 = true then ((garlandref08_Gram.f a1_0 l1_1 a1_2 a1_0 y215 a1_2).bind fun t265 => (if t265 = true then ((garlandlaw08_wakes.f kj4).bind fun t266 => (some t266)) else (none))) else (none)) = some r := H
          have A31 := Aside0.mk A310
          clear A310
          by_cases c32 : t264 = true
          · subst c32
            have H1 : ((garlandref08_Gram.f a1_0 l1_1 a1_2 a1_0 y215 a1_2).bind fun t265 => (if t265 = true then ((garlandlaw08_wakes.f kj4).bind fun t266 => (some t266)) else (none))) = some r := by rw [if_pos rfl] at H; exact H
            clear H
            have H := H1
            clear H1
            replace H := Option.bind_eq_some_iff.mp H
            obtain ⟨t265, A330, H⟩ := H
            replace H : (if t265 = true then ((garlandlaw08_wakes.f kj4).bind fun t266 => (some t266)) else (none)) = some r := H
            have A33 := Aside0.mk A330
            clear A330
            by_cases c34 : t265 = true
            · subst c34
              have H1 : ((garlandlaw08_wakes.f kj4).bind fun t266 => (some t266)) = some r := by rw [if_pos rfl] at H; exact H
              clear H
              have H := H1
              clear H1
              replace H := Option.bind_eq_some_iff.mp H
              obtain ⟨t266, A350, H⟩ := H
              replace H : (some t266) = some r := H
              have A35 := Aside0.mk A350
              clear A350
              obtain rfl := Option.some.inj H
              have hnb36 := NB203_204.out
              have hnc36 := NB204_203.out
              have hcz37_0 : wc.cell? ⟨gb203, 0, none⟩ = some (.slice A0_0 l0_0.length c0_0) := (blk_cell BK203.out 0).trans rfl
              have hcz37_1 : wc.cell? ⟨gb203, 1, none⟩ = some (.int .i64 a0_1) := (blk_cell BK203.out 1).trans rfl
              have hfz37_0 := blk_frozen BK203.out 0
              have hfz37_1 := blk_frozen BK203.out 1
              try go_wp2_with (first | ((with_reducible refine gate_callee (f := 12) rfl ?_); refine goesL_ (some 42) rfl rfl Try.func12 (by kernel_rfl) rfl #[.agg #[.slice A0_0 l0_0.length c0_0, .int .i64 a0_1]] rfl (by (try simp only [List.map_toArray, List.map_cons, List.map_nil]); first | done | rfl | (simp only [List.length_drop, List.length_take]; rfl)) ?_; (with_reducible refine (garlandref08_Own.calls kj4 _ _ l0_0 a0_1 t207 t210 _ ?side1 ?side2 A23.out).mono ?_); (case side1 => repeat (first | exact (Kd.C_below HR0_0.out HB.out) | (with_reducible refine Kd.C_alloc ?_ _) | (with_reducible refine Kd.C_drewN ?_ _) | (with_reducible refine Kd.C_drew ?_))); (case side2 => exact HC0_0.out); rintro e w38 ⟨v208, rfl, ho0, hb⟩; refine ⟨_, rfl, ?_⟩; have n0_ := Aside0.mk (Kd.V_elder' (by (with_reducible repeat (first | apply Kd.V_alloc | apply Kd.V_drewN | apply Kd.V_drew)); exact HO_205001.out) (Kd.S_base ho0) hb); have n1_ := Aside0.mk (Kd.N_lower (Kd.N_mono (ok' := fun k_ => (P1_1_ k_ ∨ w.heap.size ≤ k_) ∧ k_ ≠ gb203 ∧ k_ ≠ gb204) (Kd.S_N (Kd.S_bound ho0)) (fun k_ hk_ => ⟨(.inr (Nat.le_trans (below_size (by repeat (first | (with_reducible first | exact HB.out | apply below_alloc | apply pw_below_drewN | apply below_drew1 | refine below_set ?_ GE203.out | refine below_set ?_ GE204.out) | exact HB.out))) hk_.2.1)), (Kd.freshB (g := gb203) (o := .cells #[.slice A0_0 l0_0.length c0_0, .int .i64 a0_1] 28 (0, 0)) (by (with_reducible repeat (first | refine blk_drewN ?_ _ | refine blk_drew ?_ | refine blk_alloc ?_ _)); exact BK203.out) k_ hk_.2.1), (Kd.freshB (g := gb204) (o := .cells #[.int .i64 a1_0, .slice A1_1 l1_1.length c1_1, .bool a1_2] 26 (0, 0)) (by (with_reducible repeat (first | refine blk_drewN ?_ _ | refine blk_drew ?_ | refine blk_alloc ?_ _)); exact BK204.out) k_ hk_.2.1)⟩)) (below_size (by repeat (first | (with_reducible first | exact HB.out | apply below_alloc | apply pw_below_drewN | apply below_drew1 | refine below_set ?_ GE203.out | refine below_set ?_ GE204.out) | exact HB.out)))); have n2_ := Aside0.mk (blk_below (g := gb203) (o := .cells #[.slice A0_0 l0_0.length c0_0, .int .i64 a0_1] 28 (0, 0)) (by (with_reducible repeat (first | refine blk_drewN ?_ _ | refine blk_drew ?_ | refine blk_alloc ?_ _)); exact BK203.out) hb); have n3_ := Aside0.mk (blk_below (g := gb204) (o := .cells #[.int .i64 a1_0, .slice A1_1 l1_1.length c1_1, .bool a1_2] 26 (0, 0)) (by (with_reducible repeat (first | refine blk_drewN ?_ _ | refine blk_drew ?_ | refine blk_alloc ?_ _)); exact BK204.out) hb); have n4_ := Aside0.mk (below_step (by repeat (first | (with_reducible first | exact HB.out | apply below_alloc | apply pw_below_drewN | apply below_drew1 | refine below_set ?_ GE203.out | refine below_set ?_ GE204.out) | exact HB.out)) hb); clear HO_205001; clear BK203; clear BK204; clear HB; have HO_205001 := n0_; have HO209 := n1_; have BK203 := n2_; have BK204 := n3_; have HB := n4_; clear n0_ n1_ n2_ n3_ n4_; (try clear hb); (try clear hb2); (try clear hk); (try clear hi); (try clear ho0)) | ((with_reducible refine gate_dst (N := 9) rfl ?_); (try (refine gate_guard (by rfl) ?_; dsimp only)); refine box_event ?hg (N := 9) ?hd (cs := #[.slice none 0 0, .int .i64 0]) (t := 28) ?hr ?_; (case hd => rfl); (case hg => rfl); (case hr => first | (go_simp; done) | (go_simp; rfl)); intro gb211 hg w39 hbox hb; have n0_ := Aside0.mk (Kd.V_below (Kd.V_elderB (by (with_reducible repeat (first | apply Kd.V_alloc | apply Kd.V_drewN | apply Kd.V_drew)); exact HO_205001.out) gb211 (Nat.le_of_eq hg.symm)) hb); have n1_ := Aside0.mk (Kd.N_below (Kd.N_elderB (by (with_reducible repeat (first | apply Kd.N_alloc | apply Kd.N_drewN | apply Kd.N_drew)); exact HO209.out) gb211 (Nat.le_of_eq hg.symm)) hb); have n2_ := Aside0.mk (blk_below (g := gb203) (o := .cells #[.slice A0_0 l0_0.length c0_0, .int .i64 a0_1] 28 (0, 0)) (by (with_reducible repeat (first | refine blk_drewN ?_ _ | refine blk_drew ?_ | refine blk_alloc ?_ _)); exact BK203.out) hb); have n3_ := Aside0.mk (blk_below (g := gb204) (o := .cells #[.int .i64 a1_0, .slice A1_1 l1_1.length c1_1, .bool a1_2] 26 (0, 0)) (by (with_reducible repeat (first | refine blk_drewN ?_ _ | refine blk_drew ?_ | refine blk_alloc ?_ _)); exact BK204.out) hb); have n4_ := Aside0.mk (below_step (by repeat (first | (with_reducible first | exact HB.out | apply below_alloc | apply pw_below_drewN | apply below_drew1 | refine below_set ?_ GE203.out | refine below_set ?_ GE204.out) | exact HB.out)) hb); have n5_ := Aside0.mk (hbox); have n6_ := Aside0.mk ((by rw [hg]; exact (below_size (by repeat (first | (with_reducible first | exact HB.out | apply below_alloc | apply pw_below_drewN | apply below_drew1 | refine below_set ?_ GE203.out | refine below_set ?_ GE204.out) | exact HB.out))) : w.heap.size ≤ gb211)); have n7_ := Aside0.mk ((by rw [hg]; exact (below_size (by repeat (first | (with_reducible first | exact HB.out | apply below_alloc | apply pw_below_drewN | apply below_drew1 | refine below_set ?_ GE203.out | refine below_set ?_ GE204.out) | exact HB.out))) : w.heap.size ≤ gb211)); have n8_ := Aside0.mk ((by rw [hg]; exact Nat.ne_of_lt (blk_lt (g := gb203) (o := .cells #[.slice A0_0 l0_0.length c0_0, .int .i64 a0_1] 28 (0, 0)) (by (with_reducible repeat (first | refine blk_drewN ?_ _ | refine blk_drew ?_ | refine blk_alloc ?_ _)); exact BK203.out)) : gb203 ≠ gb211)); have n9_ := Aside0.mk ((by rw [hg]; exact Nat.ne_of_gt (blk_lt (g := gb203) (o := .cells #[.slice A0_0 l0_0.length c0_0, .int .i64 a0_1] 28 (0, 0)) (by (with_reducible repeat (first | refine blk_drewN ?_ _ | refine blk_drew ?_ | refine blk_alloc ?_ _)); exact BK203.out)) : gb211 ≠ gb203)); have n10_ := Aside0.mk ((by rw [hg]; exact Nat.ne_of_lt (blk_lt (g := gb204) (o := .cells #[.int .i64 a1_0, .slice A1_1 l1_1.length c1_1, .bool a1_2] 26 (0, 0)) (by (with_reducible repeat (first | refine blk_drewN ?_ _ | refine blk_drew ?_ | refine blk_alloc ?_ _)); exact BK204.out)) : gb204 ≠ gb211)); have n11_ := Aside0.mk ((by rw [hg]; exact Nat.ne_of_gt (blk_lt (g := gb204) (o := .cells #[.int .i64 a1_0, .slice A1_1 l1_1.length c1_1, .bool a1_2] 26 (0, 0)) (by (with_reducible repeat (first | refine blk_drewN ?_ _ | refine blk_drew ?_ | refine blk_alloc ?_ _)); exact BK204.out)) : gb211 ≠ gb204)); clear HO_205001; clear HO209; clear BK203; clear BK204; clear HB; have HO_205001 := n0_; have HO209 := n1_; have BK203 := n2_; have BK204 := n3_; have HB := n4_; have BK211 := n5_; have GW211 := n6_; have GE211 := n7_; have NB203_211 := n8_; have NB211_203 := n9_; have NB204_211 := n10_; have NB211_204 := n11_; clear n0_ n1_ n2_ n3_ n4_ n5_ n6_ n7_ n8_ n9_ n10_ n11_; clear hb hbox hg; obtain ⟨Ao40, co40, eo40⟩ := Kd.N_slice HO209.out; subst eo40; have hnb41 := NB211_203.out; have hnc41 := NB203_211.out; have hnb42 := NB211_204.out; have hnc42 := NB204_211.out; have hcz43_0 : w39.cell? ⟨gb211, 0, none⟩ = some (.slice none 0 0) := (blk_cell BK211.out 0).trans rfl; have hcz43_1 : w39.cell? ⟨gb211, 1, none⟩ = some (.int .i64 0) := (blk_cell BK211.out 1).trans rfl; have hfz43_0 := blk_frozen BK211.out 0; have hfz43_1 := blk_frozen BK211.out 1))
              have n0_ : Aside0 (Kd.V (Kd.int .u8) 5 ((w39.setCell ⟨gb211, 0, none⟩ (.slice Ao40 t207.length co40)).setCell ⟨gb211, 1, none⟩ (.int .i64 t210)) w.heap.size (fun k_ => (P1_1_ k_ ∨ w.heap.size ≤ k_) ∧ some k_ ≠ (.slice Ao40 t207.length co40 : Value).ownBlock ∧ k_ ≠ gb203 ∧ k_ ≠ gb204 ∧ k_ ≠ gb211) (.slice A1_1 l1_1.length c1_1) l1_1) := ⟨by (with_reducible repeat (first | apply Kd.V_alloc | apply Kd.V_drewN | apply Kd.V_drew)); exact Kd.V_mono (Kd.V_far (p := ⟨gb211, 1, none⟩) (Kd.V_far (p := ⟨gb211, 0, none⟩) (Kd.V_mono HO_205001.out (fun k_ hk => (⟨hk, hk.2⟩ : _ ∧ k_ ≠ gb211))) (fun _ hk => hk.2) (.slice Ao40 t207.length co40)) (fun _ hk => hk.2) (.int .i64 t210)) (fun _ hk => ⟨hk.1.1.1.1, ⟨hk.1.1.2, ⟨hk.1.1.1.2.1, ⟨hk.1.1.1.2.2, hk.1.2⟩⟩⟩⟩)⟩
              have n1_ : Aside0 (Kd.N k26 26 ((w39.setCell ⟨gb211, 0, none⟩ (.slice Ao40 t207.length co40)).setCell ⟨gb211, 1, none⟩ (.int .i64 t210)) w.heap.size (fun k_ => (P1_1_ k_ ∨ w.heap.size ≤ k_) ∧ k_ ≠ gb203 ∧ k_ ≠ gb204 ∧ k_ ≠ gb211) (.slice Ao40 t207.length co40) t207) := ⟨by (with_reducible repeat (first | apply Kd.N_alloc | apply Kd.N_drewN | apply Kd.N_drew)); exact Kd.N_mono (Kd.N_far (p := ⟨gb211, 1, none⟩) (Kd.N_far (p := ⟨gb211, 0, none⟩) (Kd.N_mono HO209.out (fun k_ hk => (⟨hk, hk.2⟩ : _ ∧ k_ ≠ gb211))) (fun _ hk => hk.2) (.slice Ao40 t207.length co40)) (fun _ hk => hk.2) (.int .i64 t210)) (fun _ hk => ⟨hk.1.1.1, ⟨hk.1.1.2.1, ⟨hk.1.1.2.2, hk.1.2⟩⟩⟩)⟩
              have n2_ : Aside0 (((w39.setCell ⟨gb211, 0, none⟩ (.slice Ao40 t207.length co40)).setCell ⟨gb211, 1, none⟩ (.int .i64 t210)).heap[gb203]? = some (.cells #[.slice A0_0 l0_0.length c0_0, .int .i64 a0_1] 28 (0, 0))) := ⟨by (with_reducible repeat (first | refine blk_drewN ?_ _ | refine blk_drew ?_ | refine blk_alloc ?_ _)); refine blk_far ?_ NB203_211.out _; (with_reducible repeat (first | refine blk_drewN ?_ _ | refine blk_drew ?_ | refine blk_alloc ?_ _)); refine blk_far ?_ NB203_211.out _; (with_reducible repeat (first | refine blk_drewN ?_ _ | refine blk_drew ?_ | refine blk_alloc ?_ _)); exact BK203.out⟩
              have n3_ : Aside0 (((w39.setCell ⟨gb211, 0, none⟩ (.slice Ao40 t207.length co40)).setCell ⟨gb211, 1, none⟩ (.int .i64 t210)).heap[gb204]? = some (.cells #[.int .i64 a1_0, .slice A1_1 l1_1.length c1_1, .bool a1_2] 26 (0, 0))) := ⟨by (with_reducible repeat (first | refine blk_drewN ?_ _ | refine blk_drew ?_ | refine blk_alloc ?_ _)); refine blk_far ?_ NB204_211.out _; (with_reducible repeat (first | refine blk_drewN ?_ _ | refine blk_drew ?_ | refine blk_alloc ?_ _)); refine blk_far ?_ NB204_211.out _; (with_reducible repeat (first | refine blk_drewN ?_ _ | refine blk_drew ?_ | refine blk_alloc ?_ _)); exact BK204.out⟩
              have n4_ : Aside0 (((w39.setCell ⟨gb211, 0, none⟩ (.slice Ao40 t207.length co40)).setCell ⟨gb211, 1, none⟩ (.int .i64 t210)).heap[gb211]? = some (.cells #[.slice Ao40 t207.length co40, .int .i64 t210] 28 (0, 0))) := ⟨by (with_reducible repeat (first | refine blk_drewN ?_ _ | refine blk_drew ?_ | refine blk_alloc ?_ _)); refine blk_put (cs := #[.slice Ao40 t207.length co40, .int .i64 0]) ?_ 1 _ rfl; (with_reducible repeat (first | refine blk_drewN ?_ _ | refine blk_drew ?_ | refine blk_alloc ?_ _)); refine blk_put (cs := #[.slice none 0 0, .int .i64 0]) ?_ 0 _ rfl; (with_reducible repeat (first | refine blk_drewN ?_ _ | refine blk_drew ?_ | refine blk_alloc ?_ _)); exact BK211.out⟩
              have n5_ : Aside0 (Below w.heap.size w ((w39.setCell ⟨gb211, 0, none⟩ (.slice Ao40 t207.length co40)).setCell ⟨gb211, 1, none⟩ (.int .i64 t210))) := ⟨by repeat (first | (with_reducible first | exact HB.out | apply below_alloc | apply pw_below_drewN | apply below_drew1 | refine below_set ?_ GE203.out | refine below_set ?_ GE204.out | refine below_set ?_ GE211.out) | exact HB.out)⟩
              (try clear HO_205001)
              (try clear HO209)
              (try clear BK203)
              (try clear BK204)
              (try clear BK211)
              (try clear HB)
              generalize ((w39.setCell ⟨gb211, 0, none⟩ (.slice Ao40 t207.length co40)).setCell ⟨gb211, 1, none⟩ (.int .i64 t210)) = w44 at n0_ n1_ n2_ n3_ n4_ n5_ ⊢
              have HO_205001 := n0_
              have HO209 := n1_
              have BK203 := n2_
              have BK204 := n3_
              have BK211 := n4_
              have HB := n5_
              clear n0_ n1_ n2_ n3_ n4_ n5_
              have n0_ := Aside0.mk (Kd.V_drew HO_205001.out)
              have n1_ := Aside0.mk (Kd.N_drew HO209.out)
              have n2_ := Aside0.mk (blk_drew BK203.out)
              have n3_ := Aside0.mk (blk_drew BK204.out)
              have n4_ := Aside0.mk (blk_drew BK211.out)
              have n5_ := Aside0.mk (below_drew1 HB.out)
              clear HO_205001
              clear HO209
              clear BK203
              clear BK204
              clear BK211
              clear HB
              have HO_205001 := n0_
              have HO209 := n1_
              have BK203 := n2_
              have BK204 := n3_
              have BK211 := n4_
              have HB := n5_
              clear n0_ n1_ n2_ n3_ n4_ n5_
              refine start_ (n := 11) (S := fun w' => w'.cell? ⟨gb204, 0, none⟩ = some (.int .i64 a1_0) ∧ w'.cell? ⟨gb204, 1, none⟩ = some (.slice A1_1 l1_1.length c1_1) ∧ w'.cell? ⟨gb204, 2, none⟩ = some (.bool a1_2)) (ds := []) #[false, false, false, false, false, false, false, false, false, false, false] (by kernel_rfl) rfl rfl ⟨(blk_cell BK204.out 0).trans rfl, (blk_cell BK204.out 1).trans rfl, (blk_cell BK204.out 2).trans rfl⟩ (fun hHeld => ?_); refine with_tabW garlandlaw08_BagOwn.tab4 garlandlaw08_BagOwn.bits4 (fun HT_ HW_ => ?_)
              generalize w44.drew = w45 at HO_205001 HO209 BK203 BK204 BK211 HB hHeld ⊢
              refine pure_ (i := 0) (N := some 43) (v := ?_) (a' := ?_) #[true, false, false, false, false, false, false, false, false, false, false] rfl rfl (any_of HT_.out (by kernel_rfl)) (fun _ _ _ h => h) (Or.inl ⟨by rfl, ?_⟩) ?_ ?_
              rotate_left
              · intro w'
                go_simp
                with_reducible rfl
              rotate_left
              · simp only [Act.put, List.setIfInBounds_toArray, List.set_cons_zero, List.set_cons_succ, i64_w, i32_w]
                rfl
              refine pure_ (i := 3) (N := some 46) (v := ?_) (a' := ?_) #[true, false, false, true, false, false, false, false, false, false, false] rfl rfl (any_of HT_.out (by kernel_rfl)) (fun _ _ _ h => h) (Or.inl ⟨by rfl, ?_⟩) ?_ ?_
              rotate_left
              · intro w'
                go_simp
                with_reducible rfl
              rotate_left
              · simp only [Act.put, List.setIfInBounds_toArray, List.set_cons_zero, List.set_cons_succ, i64_w, i32_w]
                rfl
              refine pure_ (i := 6) (N := some 49) (v := ?_) (a' := ?_) #[true, false, false, true, false, false, true, false, false, false, false] rfl rfl (any_of HT_.out (by kernel_rfl)) (fun _ _ _ h => h) (Or.inl ⟨by rfl, ?_⟩) ?_ ?_
              rotate_left
              · intro w'
                go_simp
                with_reducible rfl
              rotate_left
              · simp only [Act.put, List.setIfInBounds_toArray, List.set_cons_zero, List.set_cons_succ, i64_w, i32_w]
                rfl
              refine take_ (i := 1) (N := some 44) (v := ?_) (a' := ?_) #[true, true, false, true, false, false, true, false, false, false, false] rfl rfl (take_ofW HT_.out HW_.out (by kernel_rfl)) (fun _ _ _ h => h) (Or.inl ⟨by rfl, ?_⟩) hHeld ?_ ?_
              rotate_left
              · rintro w' ⟨s0, s1, s2⟩
                go_simp
                with_reducible rfl
              rotate_left
              · simp only [Act.put, List.setIfInBounds_toArray, List.set_cons_zero, List.set_cons_succ, i64_w, i32_w]
                rfl
              refine take_ (i := 4) (N := some 47) (v := ?_) (a' := ?_) #[true, true, false, true, true, false, true, false, false, false, false] rfl rfl (take_ofW HT_.out HW_.out (by kernel_rfl)) (fun _ _ _ h => h) (Or.inl ⟨by rfl, ?_⟩) hHeld ?_ ?_
              rotate_left
              · rintro w' ⟨s0, s1, s2⟩
                go_simp
                with_reducible rfl
              rotate_left
              · simp only [Act.put, List.setIfInBounds_toArray, List.set_cons_zero, List.set_cons_succ, i64_w, i32_w]
                rfl
              refine take_ (i := 7) (N := some 50) (v := ?_) (a' := ?_) #[true, true, false, true, true, false, true, true, false, false, false] rfl rfl (take_ofW HT_.out HW_.out (by kernel_rfl)) (fun _ _ _ h => h) (Or.inl ⟨by rfl, ?_⟩) hHeld ?_ ?_
              rotate_left
              · rintro w' ⟨s0, s1, s2⟩
                go_simp
                with_reducible rfl
              rotate_left
              · simp only [Act.put, List.setIfInBounds_toArray, List.set_cons_zero, List.set_cons_succ, i64_w, i32_w]
                rfl
              refine join_ (σ := Value × Value × Nat) 1 #[true, true, true, true, true, true, true, true, true, true, false] (fun s_ => [(45, s_.1), (48, s_.2.1), (10, .pointer (some ⟨s_.2.2, 0, none⟩)), (51, .agg #[.int .i64 a1_0, s_.2.1, .bool a1_2])]) (fun s_ w' => (w'.cell? ⟨gb204, 0, none⟩ = some (.int .i64 a1_0) ∧ w'.cell? ⟨gb204, 1, none⟩ = some (.slice A1_1 l1_1.length c1_1) ∧ w'.cell? ⟨gb204, 2, none⟩ = some (.bool a1_2)) ∧ (Kd.N k26 26 w' w.heap.size (fun k_ => (P1_1_ k_ ∨ w.heap.size ≤ k_) ∧ some k_ ≠ (s_.2.1 : Value).ownBlock ∧ k_ ≠ gb203 ∧ k_ ≠ gb204 ∧ k_ ≠ gb211 ∧ k_ ≠ s_.2.2) (.slice Ao40 t207.length co40) t207) ∧ (Kd.R (Kd.int .u8) 5 w' w.heap.size (fun k_ => (w.heap.size ≤ k_)) s_.2.1 y215) ∧ (Kd.V (Kd.int .u8) 5 w' w.heap.size (fun k_ => (P1_1_ k_ ∨ w.heap.size ≤ k_) ∧ some k_ ≠ (.slice Ao40 t207.length co40 : Value).ownBlock ∧ some k_ ≠ (s_.2.1 : Value).ownBlock ∧ k_ ≠ gb203 ∧ k_ ≠ gb204 ∧ k_ ≠ gb211 ∧ k_ ≠ s_.2.2) (.slice A1_1 l1_1.length c1_1) l1_1) ∧ (w'.heap[gb203]? = some (.cells #[.slice A0_0 l0_0.length c0_0, .int .i64 a0_1] 28 (0, 0))) ∧ (w'.heap[gb204]? = some (.cells #[.int .i64 a1_0, .slice A1_1 l1_1.length c1_1, .bool a1_2] 26 (0, 0))) ∧ (w'.heap[gb211]? = some (.cells #[.slice Ao40 t207.length co40, .int .i64 t210] 28 (0, 0))) ∧ (w'.heap[s_.2.2]? = some (.cells #[.int .i64 0, .slice none 0 0, .bool false] 26 (0, 0))) ∧ (w.heap.size ≤ s_.2.2) ∧ (w.heap.size ≤ s_.2.2) ∧ (gb203 ≠ s_.2.2) ∧ (s_.2.2 ≠ gb203) ∧ (gb204 ≠ s_.2.2) ∧ (s_.2.2 ≠ gb204) ∧ (gb211 ≠ s_.2.2) ∧ (s_.2.2 ≠ gb211) ∧ (Below w.heap.size w w')) ?_ ?_
              rotate_left
              · intro hCont
                refine two_ (i := 2) (j := 9) (Ni := some 45) (Nj := some 10) #[true, true, true, true, true, false, true, true, false, false, false] #[true, true, false, true, true, false, true, true, false, true, false] rfl rfl rfl rfl (two_of HT_.out (by kernel_rfl)) (by decide) (by decide) (fun K hK => ?_) (fun K hK => ?_)
                · skip
                  refine Kd.R_lit_step (Kd.int .u8) _ 5 ?hg (N := 45) ?hd (xs := ([] : List Int)) (inner := []) (ok := fun _ => True) (okp := fun _ => True) ?hr ?hp (fun _ hk => hk) trivial (Below.refl _ _) (Nat.le_refl _) (by simp) ?_; (case hd => rfl); (case hg => rfl); (case hr => first | (go_simp; done) | (go_simp; rfl)); (case hp => exact (Reps.none _ _))
                  intro v213 w46 ho47 hb hg_ hnew_
                  clear hg_ hnew_
                  (first | rw [← Ny212.out] at ho47 | (simp only [Int.reduceToNat] at ho47; rw [← Ny212.out] at ho47))
                  have n0_ := Aside0.mk (Kd.V_elder' (by (with_reducible repeat (first | apply Kd.V_alloc | apply Kd.V_drewN | apply Kd.V_drew)); exact HO_205001.out) (Kd.R_base ho47) hb)
                  have n1_ := Aside0.mk (Kd.N_elder' (by (with_reducible repeat (first | apply Kd.N_alloc | apply Kd.N_drewN | apply Kd.N_drew)); exact HO209.out) (Kd.R_base ho47) hb)
                  have n2_ := Aside0.mk (Kd.R_lower (Kd.R_newM (M := fun k_ => (w.heap.size ≤ k_)) ho47 (below_size (by repeat (first | (with_reducible first | exact HB.out | apply below_alloc | apply pw_below_drewN | apply below_drew1 | refine below_set ?_ GE203.out | refine below_set ?_ GE204.out | refine below_set ?_ GE211.out) | exact HB.out))) (fun k_ h_ => h_)) (below_size (by repeat (first | (with_reducible first | exact HB.out | apply below_alloc | apply pw_below_drewN | apply below_drew1 | refine below_set ?_ GE203.out | refine below_set ?_ GE204.out | refine below_set ?_ GE211.out) | exact HB.out))))
                  have n3_ := Aside0.mk (blk_below (g := gb203) (o := .cells #[.slice A0_0 l0_0.length c0_0, .int .i64 a0_1] 28 (0, 0)) (by (with_reducible repeat (first | refine blk_drewN ?_ _ | refine blk_drew ?_ | refine blk_alloc ?_ _)); exact BK203.out) hb)
                  have n4_ := Aside0.mk (blk_below (g := gb204) (o := .cells #[.int .i64 a1_0, .slice A1_1 l1_1.length c1_1, .bool a1_2] 26 (0, 0)) (by (with_reducible repeat (first | refine blk_drewN ?_ _ | refine blk_drew ?_ | refine blk_alloc ?_ _)); exact BK204.out) hb)
                  have n5_ := Aside0.mk (blk_below (g := gb211) (o := .cells #[.slice Ao40 t207.length co40, .int .i64 t210] 28 (0, 0)) (by (with_reducible repeat (first | refine blk_drewN ?_ _ | refine blk_drew ?_ | refine blk_alloc ?_ _)); exact BK211.out) hb)
                  have n6_ := Aside0.mk (below_step (by repeat (first | (with_reducible first | exact HB.out | apply below_alloc | apply pw_below_drewN | apply below_drew1 | refine below_set ?_ GE203.out | refine below_set ?_ GE204.out | refine below_set ?_ GE211.out) | exact HB.out)) hb)
                  clear HO_205001
                  clear HO209
                  clear BK203
                  clear BK204
                  clear BK211
                  clear HB
                  have HO_205001 := n0_
                  have HO209 := n1_
                  have HO214 := n2_
                  have BK203 := n3_
                  have BK204 := n4_
                  have BK211 := n5_
                  have HB := n6_
                  clear n0_ n1_ n2_ n3_ n4_ n5_ n6_
                  clear hb ho47
                  refine hK.out _ _ ⟨(blk_cell BK204.out 0).trans rfl, (blk_cell BK204.out 1).trans rfl, (blk_cell BK204.out 2).trans rfl⟩ (fun hHeld => ?_)
                  clear hK K
                  refine norm_ (a' := ?_) ?_ ?_
                  rotate_left
                  · show Act.put _ (some 45) _ = _
                    simp only [Act.put, List.setIfInBounds_toArray, List.set_cons_zero, List.set_cons_succ, i64_w, i32_w]
                    rfl
                  refine two_ (i := 5) (j := 9) (Ni := some 48) (Nj := some 10) #[true, true, true, true, true, true, true, true, false, false, false] #[true, true, true, true, true, false, true, true, false, true, false] rfl rfl rfl rfl (two_of HT_.out (by kernel_rfl)) (by decide) (by decide) (fun K hK => ?_) (fun K hK => ?_)
                  · skip
                    refine Kd.R_append_rows_step (Kd.int .u8) (w0 := w) w.heap.size (by rfl) (.tmp 45) (.tmp 47) 24 5 (.int .u8 0) 1 rfl Try.underlying24 info5 rfl (by decide) (by omega) v213 y212 l1_1 _ _ _ (fun k_ => (w.heap.size ≤ k_)) (fun _ => False) rfl rfl ?aO ?aR (fun _ _ h => h) (fun _ h => h.elim) ?aF ?aB ?aS ?aL ?_
                    (case aR => repeat (first | exact (Kd.V_reads' HO_205001.out).2.2 | (with_reducible refine Kd.C_alloc ?_ _) | (with_reducible refine Kd.C_drewN ?_ _) | (with_reducible refine Kd.C_drew ?_)))
                    (case aB => exact (by repeat (first | (with_reducible first | exact HB.out | apply below_alloc | apply pw_below_drewN | apply below_drew1 | refine below_set ?_ GE203.out | refine below_set ?_ GE204.out | refine below_set ?_ GE211.out) | exact HB.out)))
                    (case aF => exact (fun k_ hk => (Nat.le_trans (below_size (by repeat (first | (with_reducible first | exact HB.out | apply below_alloc | apply pw_below_drewN | apply below_drew1 | refine below_set ?_ GE203.out | refine below_set ?_ GE204.out | refine below_set ?_ GE211.out) | exact HB.out))) hk)))
                    (case aO => exact (by (with_reducible repeat (first | apply Kd.R_alloc | apply Kd.R_drewN | apply Kd.R_drew)); exact Kd.R_mono HO214.out (fun _ hk => hk.1)))
                    (case aS => exact (below_size (by repeat (first | (with_reducible first | exact HB.out | apply below_alloc | apply pw_below_drewN | apply below_drew1 | refine below_set ?_ GE203.out | refine below_set ?_ GE204.out | refine below_set ?_ GE211.out) | exact HB.out))))
                    (case aL => have := LMc24.out; omega)
                    intro v216 w48 ho hb hg hat
                    rw [← Ny215.out] at ho
                    have n0_ := Aside0.mk (Kd.V_afterv (ok := (fun k_ => (P1_1_ k_ ∨ w.heap.size ≤ k_) ∧ some k_ ≠ (.slice Ao40 t207.length co40 : Value).ownBlock ∧ k_ ≠ gb203 ∧ k_ ≠ gb204 ∧ k_ ≠ gb211)) (by (with_reducible repeat (first | apply Kd.V_alloc | apply Kd.V_drewN | apply Kd.V_drew)); exact HO_205001.out) hg hat)
                    have n1_ := Aside0.mk (blk_grown (g := gb203) (o := .cells #[.slice A0_0 l0_0.length c0_0, .int .i64 a0_1] 28 (0, 0)) (by (with_reducible repeat (first | refine blk_drewN ?_ _ | refine blk_drew ?_ | refine blk_alloc ?_ _)); exact BK203.out) hg (Kd.R_ne HO214.out BK203.out (by decide)))
                    have n2_ := Aside0.mk (blk_grown (g := gb204) (o := .cells #[.int .i64 a1_0, .slice A1_1 l1_1.length c1_1, .bool a1_2] 26 (0, 0)) (by (with_reducible repeat (first | refine blk_drewN ?_ _ | refine blk_drew ?_ | refine blk_alloc ?_ _)); exact BK204.out) hg (Kd.R_ne HO214.out BK204.out (by decide)))
                    have n3_ := Aside0.mk (Kd.N_afterv (ok := (fun k_ => (P1_1_ k_ ∨ w.heap.size ≤ k_) ∧ k_ ≠ gb203 ∧ k_ ≠ gb204 ∧ k_ ≠ gb211)) (by (with_reducible repeat (first | apply Kd.N_alloc | apply Kd.N_drewN | apply Kd.N_drew)); exact HO209.out) hg hat)
                    have n4_ := Aside0.mk (blk_grown (g := gb211) (o := .cells #[.slice Ao40 t207.length co40, .int .i64 t210] 28 (0, 0)) (by (with_reducible repeat (first | refine blk_drewN ?_ _ | refine blk_drew ?_ | refine blk_alloc ?_ _)); exact BK211.out) hg (Kd.R_ne HO214.out BK211.out (by decide)))
                    have n5_ := Aside0.mk (hb)
                    have n6_ := Aside0.mk (ho)
                    clear HO_205001
                    clear BK203
                    clear BK204
                    clear HO209
                    clear BK211
                    clear HB
                    clear HO214
                    have HO_205001 := n0_
                    have BK203 := n1_
                    have BK204 := n2_
                    have HO209 := n3_
                    have BK211 := n4_
                    have HB := n5_
                    have HO217 := n6_
                    clear n0_ n1_ n2_ n3_ n4_ n5_ n6_
                    clear ho hb hg hat
                    obtain ⟨Ao49, co49, eo49⟩ := Kd.R_slice HO217.out
                    (first | subst eo49 | (injection eo49 with f1_ f2_ f3_; have f4_ := f1_.symm; have f5_ := f3_.symm; clear f1_ f2_ f3_; subst f4_; subst f5_))
                    refine hK.out _ _ ⟨(blk_cell BK204.out 0).trans rfl, (blk_cell BK204.out 1).trans rfl, (blk_cell BK204.out 2).trans rfl⟩ (fun hHeld => ?_)
                    clear hK K
                    refine norm_ (a' := ?_) ?_ ?_
                    rotate_left
                    · show Act.put _ (some 48) _ = _
                      simp only [Act.put, List.setIfInBounds_toArray, List.set_cons_zero, List.set_cons_succ, i64_w, i32_w]
                      rfl
                    refine pure_ (i := 8) (N := some 51) (v := ?_) (a' := ?_) #[true, true, true, true, true, true, true, true, true, false, false] rfl rfl (any_of HT_.out (by kernel_rfl)) (fun _ _ _ h => h) (Or.inl ⟨by rfl, ?_⟩) ?_ ?_
                    rotate_left
                    · intro w'
                      go_simp
                      with_reducible rfl
                    rotate_left
                    · simp only [Act.put, List.setIfInBounds_toArray, List.set_cons_zero, List.set_cons_succ, i64_w, i32_w]
                      rfl
                    refine one_ (i := 9) (N := some 10) #[true, true, true, true, true, true, true, true, true, true, false] rfl rfl (one_of HT_.out (by kernel_rfl)) (by decide) (fun K hK => ?_)
                    refine box_step ?hg (N := 10) ?hd (cs := #[.int .i64 0, .slice none 0 0, .bool false]) (t := 26) ?hr ?_; (case hd => rfl); (case hg => rfl); (case hr => first | (go_simp; done) | (go_simp; rfl))
                    intro gb218 hg w50 hbox hb
                    have n0_ := Aside0.mk (Kd.V_below (Kd.V_elderB (by (with_reducible repeat (first | apply Kd.V_alloc | apply Kd.V_drewN | apply Kd.V_drew)); exact HO_205001.out) gb218 (Nat.le_of_eq hg.symm)) hb)
                    have n1_ := Aside0.mk (Kd.N_below (Kd.N_elderB (by (with_reducible repeat (first | apply Kd.N_alloc | apply Kd.N_drewN | apply Kd.N_drew)); exact HO209.out) gb218 (Nat.le_of_eq hg.symm)) hb)
                    have n2_ := Aside0.mk (Kd.R_below (by (with_reducible repeat (first | apply Kd.R_alloc | apply Kd.R_drewN | apply Kd.R_drew)); exact HO217.out) hb)
                    have n3_ := Aside0.mk (blk_below (g := gb203) (o := .cells #[.slice A0_0 l0_0.length c0_0, .int .i64 a0_1] 28 (0, 0)) (by (with_reducible repeat (first | refine blk_drewN ?_ _ | refine blk_drew ?_ | refine blk_alloc ?_ _)); exact BK203.out) hb)
                    have n4_ := Aside0.mk (blk_below (g := gb204) (o := .cells #[.int .i64 a1_0, .slice A1_1 l1_1.length c1_1, .bool a1_2] 26 (0, 0)) (by (with_reducible repeat (first | refine blk_drewN ?_ _ | refine blk_drew ?_ | refine blk_alloc ?_ _)); exact BK204.out) hb)
                    have n5_ := Aside0.mk (blk_below (g := gb211) (o := .cells #[.slice Ao40 t207.length co40, .int .i64 t210] 28 (0, 0)) (by (with_reducible repeat (first | refine blk_drewN ?_ _ | refine blk_drew ?_ | refine blk_alloc ?_ _)); exact BK211.out) hb)
                    have n6_ := Aside0.mk (below_step (by repeat (first | (with_reducible first | exact HB.out | apply below_alloc | apply pw_below_drewN | apply below_drew1 | refine below_set ?_ GE203.out | refine below_set ?_ GE204.out | refine below_set ?_ GE211.out) | exact HB.out)) hb)
                    have n7_ := Aside0.mk (hbox)
                    have n8_ := Aside0.mk ((by rw [hg]; exact (below_size (by repeat (first | (with_reducible first | exact HB.out | apply below_alloc | apply pw_below_drewN | apply below_drew1 | refine below_set ?_ GE203.out | refine below_set ?_ GE204.out | refine below_set ?_ GE211.out) | exact HB.out))) : w.heap.size ≤ gb218))
                    have n9_ := Aside0.mk ((by rw [hg]; exact (below_size (by repeat (first | (with_reducible first | exact HB.out | apply below_alloc | apply pw_below_drewN | apply below_drew1 | refine below_set ?_ GE203.out | refine below_set ?_ GE204.out | refine below_set ?_ GE211.out) | exact HB.out))) : w.heap.size ≤ gb218))
                    have n10_ := Aside0.mk ((by rw [hg]; exact Nat.ne_of_lt (blk_lt (g := gb203) (o := .cells #[.slice A0_0 l0_0.length c0_0, .int .i64 a0_1] 28 (0, 0)) (by (with_reducible repeat (first | refine blk_drewN ?_ _ | refine blk_drew ?_ | refine blk_alloc ?_ _)); exact BK203.out)) : gb203 ≠ gb218))
                    have n11_ := Aside0.mk ((by rw [hg]; exact Nat.ne_of_gt (blk_lt (g := gb203) (o := .cells #[.slice A0_0 l0_0.length c0_0, .int .i64 a0_1] 28 (0, 0)) (by (with_reducible repeat (first | refine blk_drewN ?_ _ | refine blk_drew ?_ | refine blk_alloc ?_ _)); exact BK203.out)) : gb218 ≠ gb203))
                    have n12_ := Aside0.mk ((by rw [hg]; exact Nat.ne_of_lt (blk_lt (g := gb204) (o := .cells #[.int .i64 a1_0, .slice A1_1 l1_1.length c1_1, .bool a1_2] 26 (0, 0)) (by (with_reducible repeat (first | refine blk_drewN ?_ _ | refine blk_drew ?_ | refine blk_alloc ?_ _)); exact BK204.out)) : gb204 ≠ gb218))
                    have n13_ := Aside0.mk ((by rw [hg]; exact Nat.ne_of_gt (blk_lt (g := gb204) (o := .cells #[.int .i64 a1_0, .slice A1_1 l1_1.length c1_1, .bool a1_2] 26 (0, 0)) (by (with_reducible repeat (first | refine blk_drewN ?_ _ | refine blk_drew ?_ | refine blk_alloc ?_ _)); exact BK204.out)) : gb218 ≠ gb204))
                    have n14_ := Aside0.mk ((by rw [hg]; exact Nat.ne_of_lt (blk_lt (g := gb211) (o := .cells #[.slice Ao40 t207.length co40, .int .i64 t210] 28 (0, 0)) (by (with_reducible repeat (first | refine blk_drewN ?_ _ | refine blk_drew ?_ | refine blk_alloc ?_ _)); exact BK211.out)) : gb211 ≠ gb218))
                    have n15_ := Aside0.mk ((by rw [hg]; exact Nat.ne_of_gt (blk_lt (g := gb211) (o := .cells #[.slice Ao40 t207.length co40, .int .i64 t210] 28 (0, 0)) (by (with_reducible repeat (first | refine blk_drewN ?_ _ | refine blk_drew ?_ | refine blk_alloc ?_ _)); exact BK211.out)) : gb218 ≠ gb211))
                    clear HO_205001
                    clear HO209
                    clear HO217
                    clear BK203
                    clear BK204
                    clear BK211
                    clear HB
                    have HO_205001 := n0_
                    have HO209 := n1_
                    have HO217 := n2_
                    have BK203 := n3_
                    have BK204 := n4_
                    have BK211 := n5_
                    have HB := n6_
                    have BK218 := n7_
                    have GW218 := n8_
                    have GE218 := n9_
                    have NB203_218 := n10_
                    have NB218_203 := n11_
                    have NB204_218 := n12_
                    have NB218_204 := n13_
                    have NB211_218 := n14_
                    have NB218_211 := n15_
                    clear n0_ n1_ n2_ n3_ n4_ n5_ n6_ n7_ n8_ n9_ n10_ n11_ n12_ n13_ n14_ n15_
                    clear hb hbox hg
                    refine hK.out _ _ ⟨(blk_cell BK204.out 0).trans rfl, (blk_cell BK204.out 1).trans rfl, (blk_cell BK204.out 2).trans rfl⟩ (fun hHeld => ?_)
                    clear hK K
                    refine norm_ (a' := ?_) ?_ ?_
                    rotate_left
                    · show Act.put _ (some 10) _ = _
                      simp only [Act.put, List.setIfInBounds_toArray, List.set_cons_zero, List.set_cons_succ, i64_w, i32_w]
                      rfl
                    exact norm_ (by simp only [putAll, Act.put, List.setIfInBounds_toArray, List.set_cons_zero, List.set_cons_succ]) (hCont (v213, .slice Ao49 y215.length co49, gb218) _ ⟨hHeld, (by (with_reducible repeat (first | apply Kd.N_alloc | apply Kd.N_drewN | apply Kd.N_drew)); exact Kd.N_mono HO209.out (fun _ hk => ⟨hk.1.1.1, ⟨hk.1.2, ⟨hk.1.1.2.1, ⟨hk.1.1.2.2.1, ⟨hk.1.1.2.2.2, hk.2⟩⟩⟩⟩⟩)), (by (with_reducible repeat (first | apply Kd.R_alloc | apply Kd.R_drewN | apply Kd.R_drew)); exact HO217.out), (by (with_reducible repeat (first | apply Kd.V_alloc | apply Kd.V_drewN | apply Kd.V_drew)); exact Kd.V_mono HO_205001.out (fun _ hk => ⟨hk.1.1.1, ⟨hk.1.1.2.1, ⟨hk.1.2, ⟨hk.1.1.2.2.1, ⟨hk.1.1.2.2.2.1, ⟨hk.1.1.2.2.2.2, hk.2⟩⟩⟩⟩⟩⟩)), (by (with_reducible repeat (first | refine blk_drewN ?_ _ | refine blk_drew ?_ | refine blk_alloc ?_ _)); exact BK203.out), (by (with_reducible repeat (first | refine blk_drewN ?_ _ | refine blk_drew ?_ | refine blk_alloc ?_ _)); exact BK204.out), (by (with_reducible repeat (first | refine blk_drewN ?_ _ | refine blk_drew ?_ | refine blk_alloc ?_ _)); exact BK211.out), (by (with_reducible repeat (first | refine blk_drewN ?_ _ | refine blk_drew ?_ | refine blk_alloc ?_ _)); exact BK218.out), GW218.out, GE218.out, NB203_218.out, NB218_203.out, NB204_218.out, NB218_204.out, NB211_218.out, NB218_211.out, (by repeat (first | (with_reducible first | exact HB.out | apply below_alloc | apply pw_below_drewN | apply below_drew1 | refine below_set ?_ GE203.out | refine below_set ?_ GE204.out | refine below_set ?_ GE211.out | refine below_set ?_ GE218.out) | exact HB.out))⟩)
                  · skip
                    refine box_step ?hg (N := 10) ?hd (cs := #[.int .i64 0, .slice none 0 0, .bool false]) (t := 26) ?hr ?_; (case hd => rfl); (case hg => rfl); (case hr => first | (go_simp; done) | (go_simp; rfl))
                    intro gb218 hg w48 hbox hb
                    have n0_ := Aside0.mk (Kd.V_below (Kd.V_elderB (by (with_reducible repeat (first | apply Kd.V_alloc | apply Kd.V_drewN | apply Kd.V_drew)); exact HO_205001.out) gb218 (Nat.le_of_eq hg.symm)) hb)
                    have n1_ := Aside0.mk (Kd.N_below (Kd.N_elderB (by (with_reducible repeat (first | apply Kd.N_alloc | apply Kd.N_drewN | apply Kd.N_drew)); exact HO209.out) gb218 (Nat.le_of_eq hg.symm)) hb)
                    have n2_ := Aside0.mk (Kd.R_below (by (with_reducible repeat (first | apply Kd.R_alloc | apply Kd.R_drewN | apply Kd.R_drew)); exact HO214.out) hb)
                    have n3_ := Aside0.mk (blk_below (g := gb203) (o := .cells #[.slice A0_0 l0_0.length c0_0, .int .i64 a0_1] 28 (0, 0)) (by (with_reducible repeat (first | refine blk_drewN ?_ _ | refine blk_drew ?_ | refine blk_alloc ?_ _)); exact BK203.out) hb)
                    have n4_ := Aside0.mk (blk_below (g := gb204) (o := .cells #[.int .i64 a1_0, .slice A1_1 l1_1.length c1_1, .bool a1_2] 26 (0, 0)) (by (with_reducible repeat (first | refine blk_drewN ?_ _ | refine blk_drew ?_ | refine blk_alloc ?_ _)); exact BK204.out) hb)
                    have n5_ := Aside0.mk (blk_below (g := gb211) (o := .cells #[.slice Ao40 t207.length co40, .int .i64 t210] 28 (0, 0)) (by (with_reducible repeat (first | refine blk_drewN ?_ _ | refine blk_drew ?_ | refine blk_alloc ?_ _)); exact BK211.out) hb)
                    have n6_ := Aside0.mk (below_step (by repeat (first | (with_reducible first | exact HB.out | apply below_alloc | apply pw_below_drewN | apply below_drew1 | refine below_set ?_ GE203.out | refine below_set ?_ GE204.out | refine below_set ?_ GE211.out) | exact HB.out)) hb)
                    have n7_ := Aside0.mk (hbox)
                    have n8_ := Aside0.mk ((by rw [hg]; exact (below_size (by repeat (first | (with_reducible first | exact HB.out | apply below_alloc | apply pw_below_drewN | apply below_drew1 | refine below_set ?_ GE203.out | refine below_set ?_ GE204.out | refine below_set ?_ GE211.out) | exact HB.out))) : w.heap.size ≤ gb218))
                    have n9_ := Aside0.mk ((by rw [hg]; exact (below_size (by repeat (first | (with_reducible first | exact HB.out | apply below_alloc | apply pw_below_drewN | apply below_drew1 | refine below_set ?_ GE203.out | refine below_set ?_ GE204.out | refine below_set ?_ GE211.out) | exact HB.out))) : w.heap.size ≤ gb218))
                    have n10_ := Aside0.mk ((by rw [hg]; exact Nat.ne_of_lt (blk_lt (g := gb203) (o := .cells #[.slice A0_0 l0_0.length c0_0, .int .i64 a0_1] 28 (0, 0)) (by (with_reducible repeat (first | refine blk_drewN ?_ _ | refine blk_drew ?_ | refine blk_alloc ?_ _)); exact BK203.out)) : gb203 ≠ gb218))
                    have n11_ := Aside0.mk ((by rw [hg]; exact Nat.ne_of_gt (blk_lt (g := gb203) (o := .cells #[.slice A0_0 l0_0.length c0_0, .int .i64 a0_1] 28 (0, 0)) (by (with_reducible repeat (first | refine blk_drewN ?_ _ | refine blk_drew ?_ | refine blk_alloc ?_ _)); exact BK203.out)) : gb218 ≠ gb203))
                    have n12_ := Aside0.mk ((by rw [hg]; exact Nat.ne_of_lt (blk_lt (g := gb204) (o := .cells #[.int .i64 a1_0, .slice A1_1 l1_1.length c1_1, .bool a1_2] 26 (0, 0)) (by (with_reducible repeat (first | refine blk_drewN ?_ _ | refine blk_drew ?_ | refine blk_alloc ?_ _)); exact BK204.out)) : gb204 ≠ gb218))
                    have n13_ := Aside0.mk ((by rw [hg]; exact Nat.ne_of_gt (blk_lt (g := gb204) (o := .cells #[.int .i64 a1_0, .slice A1_1 l1_1.length c1_1, .bool a1_2] 26 (0, 0)) (by (with_reducible repeat (first | refine blk_drewN ?_ _ | refine blk_drew ?_ | refine blk_alloc ?_ _)); exact BK204.out)) : gb218 ≠ gb204))
                    have n14_ := Aside0.mk ((by rw [hg]; exact Nat.ne_of_lt (blk_lt (g := gb211) (o := .cells #[.slice Ao40 t207.length co40, .int .i64 t210] 28 (0, 0)) (by (with_reducible repeat (first | refine blk_drewN ?_ _ | refine blk_drew ?_ | refine blk_alloc ?_ _)); exact BK211.out)) : gb211 ≠ gb218))
                    have n15_ := Aside0.mk ((by rw [hg]; exact Nat.ne_of_gt (blk_lt (g := gb211) (o := .cells #[.slice Ao40 t207.length co40, .int .i64 t210] 28 (0, 0)) (by (with_reducible repeat (first | refine blk_drewN ?_ _ | refine blk_drew ?_ | refine blk_alloc ?_ _)); exact BK211.out)) : gb218 ≠ gb211))
                    clear HO_205001
                    clear HO209
                    clear HO214
                    clear BK203
                    clear BK204
                    clear BK211
                    clear HB
                    have HO_205001 := n0_
                    have HO209 := n1_
                    have HO214 := n2_
                    have BK203 := n3_
                    have BK204 := n4_
                    have BK211 := n5_
                    have HB := n6_
                    have BK218 := n7_
                    have GW218 := n8_
                    have GE218 := n9_
                    have NB203_218 := n10_
                    have NB218_203 := n11_
                    have NB204_218 := n12_
                    have NB218_204 := n13_
                    have NB211_218 := n14_
                    have NB218_211 := n15_
                    clear n0_ n1_ n2_ n3_ n4_ n5_ n6_ n7_ n8_ n9_ n10_ n11_ n12_ n13_ n14_ n15_
                    clear hb hbox hg
                    refine hK.out _ _ ⟨(blk_cell BK204.out 0).trans rfl, (blk_cell BK204.out 1).trans rfl, (blk_cell BK204.out 2).trans rfl⟩ (fun hHeld => ?_)
                    clear hK K
                    refine norm_ (a' := ?_) ?_ ?_
                    rotate_left
                    · show Act.put _ (some 10) _ = _
                      simp only [Act.put, List.setIfInBounds_toArray, List.set_cons_zero, List.set_cons_succ, i64_w, i32_w]
                      rfl
                    refine one_ (i := 5) (N := some 48) #[true, true, true, true, true, true, true, true, false, true, false] rfl rfl (one_of HT_.out (by kernel_rfl)) (by decide) (fun K hK => ?_)
                    refine Kd.R_append_rows_step (Kd.int .u8) (w0 := w) w.heap.size (by rfl) (.tmp 45) (.tmp 47) 24 5 (.int .u8 0) 1 rfl Try.underlying24 info5 rfl (by decide) (by omega) v213 y212 l1_1 _ _ _ (fun k_ => (w.heap.size ≤ k_)) (fun _ => False) rfl rfl ?aO ?aR (fun _ _ h => h) (fun _ h => h.elim) ?aF ?aB ?aS ?aL ?_
                    (case aR => repeat (first | exact (Kd.V_reads' HO_205001.out).2.2 | (with_reducible refine Kd.C_alloc ?_ _) | (with_reducible refine Kd.C_drewN ?_ _) | (with_reducible refine Kd.C_drew ?_)))
                    (case aB => exact (by repeat (first | (with_reducible first | exact HB.out | apply below_alloc | apply pw_below_drewN | apply below_drew1 | refine below_set ?_ GE203.out | refine below_set ?_ GE204.out | refine below_set ?_ GE211.out | refine below_set ?_ GE218.out) | exact HB.out)))
                    (case aF => exact (fun k_ hk => (Nat.le_trans (below_size (by repeat (first | (with_reducible first | exact HB.out | apply below_alloc | apply pw_below_drewN | apply below_drew1 | refine below_set ?_ GE203.out | refine below_set ?_ GE204.out | refine below_set ?_ GE211.out | refine below_set ?_ GE218.out) | exact HB.out))) hk)))
                    (case aO => exact (by (with_reducible repeat (first | apply Kd.R_alloc | apply Kd.R_drewN | apply Kd.R_drew)); exact Kd.R_mono HO214.out (fun _ hk => hk.1)))
                    (case aS => exact (below_size (by repeat (first | (with_reducible first | exact HB.out | apply below_alloc | apply pw_below_drewN | apply below_drew1 | refine below_set ?_ GE203.out | refine below_set ?_ GE204.out | refine below_set ?_ GE211.out | refine below_set ?_ GE218.out) | exact HB.out))))
                    (case aL => have := LMc24.out; omega)
                    intro v216 w49 ho hb hg hat
                    rw [← Ny215.out] at ho
                    have n0_ := Aside0.mk (Kd.V_afterv (ok := (fun k_ => (P1_1_ k_ ∨ w.heap.size ≤ k_) ∧ some k_ ≠ (.slice Ao40 t207.length co40 : Value).ownBlock ∧ k_ ≠ gb203 ∧ k_ ≠ gb204 ∧ k_ ≠ gb211 ∧ k_ ≠ gb218)) (by (with_reducible repeat (first | apply Kd.V_alloc | apply Kd.V_drewN | apply Kd.V_drew)); exact Kd.V_mono HO_205001.out (fun _ hk => ⟨⟨hk.1.1.1, ⟨hk.1.1.2.1, ⟨hk.1.1.2.2.1, ⟨hk.1.1.2.2.2.1, ⟨hk.1.1.2.2.2.2, hk.2⟩⟩⟩⟩⟩, hk.1.2⟩)) hg hat)
                    have n1_ := Aside0.mk (blk_grown (g := gb203) (o := .cells #[.slice A0_0 l0_0.length c0_0, .int .i64 a0_1] 28 (0, 0)) (by (with_reducible repeat (first | refine blk_drewN ?_ _ | refine blk_drew ?_ | refine blk_alloc ?_ _)); exact BK203.out) hg (Kd.R_ne HO214.out BK203.out (by decide)))
                    have n2_ := Aside0.mk (blk_grown (g := gb204) (o := .cells #[.int .i64 a1_0, .slice A1_1 l1_1.length c1_1, .bool a1_2] 26 (0, 0)) (by (with_reducible repeat (first | refine blk_drewN ?_ _ | refine blk_drew ?_ | refine blk_alloc ?_ _)); exact BK204.out) hg (Kd.R_ne HO214.out BK204.out (by decide)))
                    have n3_ := Aside0.mk (Kd.N_afterv (ok := (fun k_ => (P1_1_ k_ ∨ w.heap.size ≤ k_) ∧ k_ ≠ gb203 ∧ k_ ≠ gb204 ∧ k_ ≠ gb211 ∧ k_ ≠ gb218)) (by (with_reducible repeat (first | apply Kd.N_alloc | apply Kd.N_drewN | apply Kd.N_drew)); exact Kd.N_mono HO209.out (fun _ hk => ⟨⟨hk.1.1.1, ⟨hk.1.1.2.1, ⟨hk.1.1.2.2.1, ⟨hk.1.1.2.2.2, hk.2⟩⟩⟩⟩, hk.1.2⟩)) hg hat)
                    have n4_ := Aside0.mk (blk_grown (g := gb211) (o := .cells #[.slice Ao40 t207.length co40, .int .i64 t210] 28 (0, 0)) (by (with_reducible repeat (first | refine blk_drewN ?_ _ | refine blk_drew ?_ | refine blk_alloc ?_ _)); exact BK211.out) hg (Kd.R_ne HO214.out BK211.out (by decide)))
                    have n5_ := Aside0.mk (blk_grown (g := gb218) (o := .cells #[.int .i64 0, .slice none 0 0, .bool false] 26 (0, 0)) (by (with_reducible repeat (first | refine blk_drewN ?_ _ | refine blk_drew ?_ | refine blk_alloc ?_ _)); exact BK218.out) hg (Kd.R_ne HO214.out BK218.out (by decide)))
                    have n6_ := Aside0.mk (hb)
                    have n7_ := Aside0.mk (ho)
                    clear HO_205001
                    clear BK203
                    clear BK204
                    clear HO209
                    clear BK211
                    clear BK218
                    clear HB
                    clear HO214
                    have HO_205001 := n0_
                    have BK203 := n1_
                    have BK204 := n2_
                    have HO209 := n3_
                    have BK211 := n4_
                    have BK218 := n5_
                    have HB := n6_
                    have HO217 := n7_
                    clear n0_ n1_ n2_ n3_ n4_ n5_ n6_ n7_
                    clear ho hb hg hat
                    obtain ⟨Ao50, co50, eo50⟩ := Kd.R_slice HO217.out
                    (first | subst eo50 | (injection eo50 with f1_ f2_ f3_; have f4_ := f1_.symm; have f5_ := f3_.symm; clear f1_ f2_ f3_; subst f4_; subst f5_))
                    refine hK.out _ _ ⟨(blk_cell BK204.out 0).trans rfl, (blk_cell BK204.out 1).trans rfl, (blk_cell BK204.out 2).trans rfl⟩ (fun hHeld => ?_)
                    clear hK K
                    refine norm_ (a' := ?_) ?_ ?_
                    rotate_left
                    · show Act.put _ (some 48) _ = _
                      simp only [Act.put, List.setIfInBounds_toArray, List.set_cons_zero, List.set_cons_succ, i64_w, i32_w]
                      rfl
                    refine pure_ (i := 8) (N := some 51) (v := ?_) (a' := ?_) #[true, true, true, true, true, true, true, true, true, true, false] rfl rfl (any_of HT_.out (by kernel_rfl)) (fun _ _ _ h => h) (Or.inl ⟨by rfl, ?_⟩) ?_ ?_
                    rotate_left
                    · intro w'
                      go_simp
                      with_reducible rfl
                    rotate_left
                    · simp only [Act.put, List.setIfInBounds_toArray, List.set_cons_zero, List.set_cons_succ, i64_w, i32_w]
                      rfl
                    exact norm_ (by simp only [putAll, Act.put, List.setIfInBounds_toArray, List.set_cons_zero, List.set_cons_succ]) (hCont (v213, .slice Ao50 y215.length co50, gb218) _ ⟨hHeld, (by (with_reducible repeat (first | apply Kd.N_alloc | apply Kd.N_drewN | apply Kd.N_drew)); exact Kd.N_mono HO209.out (fun _ hk => ⟨hk.1.1, ⟨hk.2, ⟨hk.1.2.1, ⟨hk.1.2.2.1, ⟨hk.1.2.2.2.1, hk.1.2.2.2.2⟩⟩⟩⟩⟩)), (by (with_reducible repeat (first | apply Kd.R_alloc | apply Kd.R_drewN | apply Kd.R_drew)); exact HO217.out), (by (with_reducible repeat (first | apply Kd.V_alloc | apply Kd.V_drewN | apply Kd.V_drew)); exact Kd.V_mono HO_205001.out (fun _ hk => ⟨hk.1.1, ⟨hk.1.2.1, ⟨hk.2, ⟨hk.1.2.2.1, ⟨hk.1.2.2.2.1, ⟨hk.1.2.2.2.2.1, hk.1.2.2.2.2.2⟩⟩⟩⟩⟩⟩)), (by (with_reducible repeat (first | refine blk_drewN ?_ _ | refine blk_drew ?_ | refine blk_alloc ?_ _)); exact BK203.out), (by (with_reducible repeat (first | refine blk_drewN ?_ _ | refine blk_drew ?_ | refine blk_alloc ?_ _)); exact BK204.out), (by (with_reducible repeat (first | refine blk_drewN ?_ _ | refine blk_drew ?_ | refine blk_alloc ?_ _)); exact BK211.out), (by (with_reducible repeat (first | refine blk_drewN ?_ _ | refine blk_drew ?_ | refine blk_alloc ?_ _)); exact BK218.out), GW218.out, GE218.out, NB203_218.out, NB218_203.out, NB204_218.out, NB218_204.out, NB211_218.out, NB218_211.out, (by repeat (first | (with_reducible first | exact HB.out | apply below_alloc | apply pw_below_drewN | apply below_drew1 | refine below_set ?_ GE203.out | refine below_set ?_ GE204.out | refine below_set ?_ GE211.out | refine below_set ?_ GE218.out) | exact HB.out))⟩)
                · skip
                  refine box_step ?hg (N := 10) ?hd (cs := #[.int .i64 0, .slice none 0 0, .bool false]) (t := 26) ?hr ?_; (case hd => rfl); (case hg => rfl); (case hr => first | (go_simp; done) | (go_simp; rfl))
                  intro gb218 hg w46 hbox hb
                  have n0_ := Aside0.mk (Kd.V_below (Kd.V_elderB (by (with_reducible repeat (first | apply Kd.V_alloc | apply Kd.V_drewN | apply Kd.V_drew)); exact HO_205001.out) gb218 (Nat.le_of_eq hg.symm)) hb)
                  have n1_ := Aside0.mk (Kd.N_below (Kd.N_elderB (by (with_reducible repeat (first | apply Kd.N_alloc | apply Kd.N_drewN | apply Kd.N_drew)); exact HO209.out) gb218 (Nat.le_of_eq hg.symm)) hb)
                  have n2_ := Aside0.mk (blk_below (g := gb203) (o := .cells #[.slice A0_0 l0_0.length c0_0, .int .i64 a0_1] 28 (0, 0)) (by (with_reducible repeat (first | refine blk_drewN ?_ _ | refine blk_drew ?_ | refine blk_alloc ?_ _)); exact BK203.out) hb)
                  have n3_ := Aside0.mk (blk_below (g := gb204) (o := .cells #[.int .i64 a1_0, .slice A1_1 l1_1.length c1_1, .bool a1_2] 26 (0, 0)) (by (with_reducible repeat (first | refine blk_drewN ?_ _ | refine blk_drew ?_ | refine blk_alloc ?_ _)); exact BK204.out) hb)
                  have n4_ := Aside0.mk (blk_below (g := gb211) (o := .cells #[.slice Ao40 t207.length co40, .int .i64 t210] 28 (0, 0)) (by (with_reducible repeat (first | refine blk_drewN ?_ _ | refine blk_drew ?_ | refine blk_alloc ?_ _)); exact BK211.out) hb)
                  have n5_ := Aside0.mk (below_step (by repeat (first | (with_reducible first | exact HB.out | apply below_alloc | apply pw_below_drewN | apply below_drew1 | refine below_set ?_ GE203.out | refine below_set ?_ GE204.out | refine below_set ?_ GE211.out) | exact HB.out)) hb)
                  have n6_ := Aside0.mk (hbox)
                  have n7_ := Aside0.mk ((by rw [hg]; exact (below_size (by repeat (first | (with_reducible first | exact HB.out | apply below_alloc | apply pw_below_drewN | apply below_drew1 | refine below_set ?_ GE203.out | refine below_set ?_ GE204.out | refine below_set ?_ GE211.out) | exact HB.out))) : w.heap.size ≤ gb218))
                  have n8_ := Aside0.mk ((by rw [hg]; exact (below_size (by repeat (first | (with_reducible first | exact HB.out | apply below_alloc | apply pw_below_drewN | apply below_drew1 | refine below_set ?_ GE203.out | refine below_set ?_ GE204.out | refine below_set ?_ GE211.out) | exact HB.out))) : w.heap.size ≤ gb218))
                  have n9_ := Aside0.mk ((by rw [hg]; exact Nat.ne_of_lt (blk_lt (g := gb203) (o := .cells #[.slice A0_0 l0_0.length c0_0, .int .i64 a0_1] 28 (0, 0)) (by (with_reducible repeat (first | refine blk_drewN ?_ _ | refine blk_drew ?_ | refine blk_alloc ?_ _)); exact BK203.out)) : gb203 ≠ gb218))
                  have n10_ := Aside0.mk ((by rw [hg]; exact Nat.ne_of_gt (blk_lt (g := gb203) (o := .cells #[.slice A0_0 l0_0.length c0_0, .int .i64 a0_1] 28 (0, 0)) (by (with_reducible repeat (first | refine blk_drewN ?_ _ | refine blk_drew ?_ | refine blk_alloc ?_ _)); exact BK203.out)) : gb218 ≠ gb203))
                  have n11_ := Aside0.mk ((by rw [hg]; exact Nat.ne_of_lt (blk_lt (g := gb204) (o := .cells #[.int .i64 a1_0, .slice A1_1 l1_1.length c1_1, .bool a1_2] 26 (0, 0)) (by (with_reducible repeat (first | refine blk_drewN ?_ _ | refine blk_drew ?_ | refine blk_alloc ?_ _)); exact BK204.out)) : gb204 ≠ gb218))
                  have n12_ := Aside0.mk ((by rw [hg]; exact Nat.ne_of_gt (blk_lt (g := gb204) (o := .cells #[.int .i64 a1_0, .slice A1_1 l1_1.length c1_1, .bool a1_2] 26 (0, 0)) (by (with_reducible repeat (first | refine blk_drewN ?_ _ | refine blk_drew ?_ | refine blk_alloc ?_ _)); exact BK204.out)) : gb218 ≠ gb204))
                  have n13_ := Aside0.mk ((by rw [hg]; exact Nat.ne_of_lt (blk_lt (g := gb211) (o := .cells #[.slice Ao40 t207.length co40, .int .i64 t210] 28 (0, 0)) (by (with_reducible repeat (first | refine blk_drewN ?_ _ | refine blk_drew ?_ | refine blk_alloc ?_ _)); exact BK211.out)) : gb211 ≠ gb218))
                  have n14_ := Aside0.mk ((by rw [hg]; exact Nat.ne_of_gt (blk_lt (g := gb211) (o := .cells #[.slice Ao40 t207.length co40, .int .i64 t210] 28 (0, 0)) (by (with_reducible repeat (first | refine blk_drewN ?_ _ | refine blk_drew ?_ | refine blk_alloc ?_ _)); exact BK211.out)) : gb218 ≠ gb211))
                  clear HO_205001
                  clear HO209
                  clear BK203
                  clear BK204
                  clear BK211
                  clear HB
                  have HO_205001 := n0_
                  have HO209 := n1_
                  have BK203 := n2_
                  have BK204 := n3_
                  have BK211 := n4_
                  have HB := n5_
                  have BK218 := n6_
                  have GW218 := n7_
                  have GE218 := n8_
                  have NB203_218 := n9_
                  have NB218_203 := n10_
                  have NB204_218 := n11_
                  have NB218_204 := n12_
                  have NB211_218 := n13_
                  have NB218_211 := n14_
                  clear n0_ n1_ n2_ n3_ n4_ n5_ n6_ n7_ n8_ n9_ n10_ n11_ n12_ n13_ n14_
                  clear hb hbox hg
                  refine hK.out _ _ ⟨(blk_cell BK204.out 0).trans rfl, (blk_cell BK204.out 1).trans rfl, (blk_cell BK204.out 2).trans rfl⟩ (fun hHeld => ?_)
                  clear hK K
                  refine norm_ (a' := ?_) ?_ ?_
                  rotate_left
                  · show Act.put _ (some 10) _ = _
                    simp only [Act.put, List.setIfInBounds_toArray, List.set_cons_zero, List.set_cons_succ, i64_w, i32_w]
                    rfl
                  refine one_ (i := 2) (N := some 45) #[true, true, true, true, true, false, true, true, false, true, false] rfl rfl (one_of HT_.out (by kernel_rfl)) (by decide) (fun K hK => ?_)
                  refine Kd.R_lit_step (Kd.int .u8) _ 5 ?hg (N := 45) ?hd (xs := ([] : List Int)) (inner := []) (ok := fun _ => True) (okp := fun _ => True) ?hr ?hp (fun _ hk => hk) trivial (Below.refl _ _) (Nat.le_refl _) (by simp) ?_; (case hd => rfl); (case hg => rfl); (case hr => first | (go_simp; done) | (go_simp; rfl)); (case hp => exact (Reps.none _ _))
                  intro v213 w47 ho48 hb hg_ hnew_
                  clear hg_ hnew_
                  (first | rw [← Ny212.out] at ho48 | (simp only [Int.reduceToNat] at ho48; rw [← Ny212.out] at ho48))
                  have n0_ := Aside0.mk (Kd.V_elder' (by (with_reducible repeat (first | apply Kd.V_alloc | apply Kd.V_drewN | apply Kd.V_drew)); exact HO_205001.out) (Kd.R_base ho48) hb)
                  have n1_ := Aside0.mk (Kd.N_elder' (by (with_reducible repeat (first | apply Kd.N_alloc | apply Kd.N_drewN | apply Kd.N_drew)); exact HO209.out) (Kd.R_base ho48) hb)
                  have n2_ := Aside0.mk (Kd.R_lower (Kd.R_newM (M := fun k_ => (w.heap.size ≤ k_)) ho48 (below_size (by repeat (first | (with_reducible first | exact HB.out | apply below_alloc | apply pw_below_drewN | apply below_drew1 | refine below_set ?_ GE203.out | refine below_set ?_ GE204.out | refine below_set ?_ GE211.out | refine below_set ?_ GE218.out) | exact HB.out))) (fun k_ h_ => h_)) (below_size (by repeat (first | (with_reducible first | exact HB.out | apply below_alloc | apply pw_below_drewN | apply below_drew1 | refine below_set ?_ GE203.out | refine below_set ?_ GE204.out | refine below_set ?_ GE211.out | refine below_set ?_ GE218.out) | exact HB.out))))
                  have n3_ := Aside0.mk (blk_below (g := gb203) (o := .cells #[.slice A0_0 l0_0.length c0_0, .int .i64 a0_1] 28 (0, 0)) (by (with_reducible repeat (first | refine blk_drewN ?_ _ | refine blk_drew ?_ | refine blk_alloc ?_ _)); exact BK203.out) hb)
                  have n4_ := Aside0.mk (blk_below (g := gb204) (o := .cells #[.int .i64 a1_0, .slice A1_1 l1_1.length c1_1, .bool a1_2] 26 (0, 0)) (by (with_reducible repeat (first | refine blk_drewN ?_ _ | refine blk_drew ?_ | refine blk_alloc ?_ _)); exact BK204.out) hb)
                  have n5_ := Aside0.mk (blk_below (g := gb211) (o := .cells #[.slice Ao40 t207.length co40, .int .i64 t210] 28 (0, 0)) (by (with_reducible repeat (first | refine blk_drewN ?_ _ | refine blk_drew ?_ | refine blk_alloc ?_ _)); exact BK211.out) hb)
                  have n6_ := Aside0.mk (blk_below (g := gb218) (o := .cells #[.int .i64 0, .slice none 0 0, .bool false] 26 (0, 0)) (by (with_reducible repeat (first | refine blk_drewN ?_ _ | refine blk_drew ?_ | refine blk_alloc ?_ _)); exact BK218.out) hb)
                  have n7_ := Aside0.mk (below_step (by repeat (first | (with_reducible first | exact HB.out | apply below_alloc | apply pw_below_drewN | apply below_drew1 | refine below_set ?_ GE203.out | refine below_set ?_ GE204.out | refine below_set ?_ GE211.out | refine below_set ?_ GE218.out) | exact HB.out)) hb)
                  clear HO_205001
                  clear HO209
                  clear BK203
                  clear BK204
                  clear BK211
                  clear BK218
                  clear HB
                  have HO_205001 := n0_
                  have HO209 := n1_
                  have HO214 := n2_
                  have BK203 := n3_
                  have BK204 := n4_
                  have BK211 := n5_
                  have BK218 := n6_
                  have HB := n7_
                  clear n0_ n1_ n2_ n3_ n4_ n5_ n6_ n7_
                  clear hb ho48
                  refine hK.out _ _ ⟨(blk_cell BK204.out 0).trans rfl, (blk_cell BK204.out 1).trans rfl, (blk_cell BK204.out 2).trans rfl⟩ (fun hHeld => ?_)
                  clear hK K
                  refine norm_ (a' := ?_) ?_ ?_
                  rotate_left
                  · show Act.put _ (some 45) _ = _
                    simp only [Act.put, List.setIfInBounds_toArray, List.set_cons_zero, List.set_cons_succ, i64_w, i32_w]
                    rfl
                  refine one_ (i := 5) (N := some 48) #[true, true, true, true, true, true, true, true, false, true, false] rfl rfl (one_of HT_.out (by kernel_rfl)) (by decide) (fun K hK => ?_)
                  refine Kd.R_append_rows_step (Kd.int .u8) (w0 := w) w.heap.size (by rfl) (.tmp 45) (.tmp 47) 24 5 (.int .u8 0) 1 rfl Try.underlying24 info5 rfl (by decide) (by omega) v213 y212 l1_1 _ _ _ (fun k_ => (w.heap.size ≤ k_)) (fun _ => False) rfl rfl ?aO ?aR (fun _ _ h => h) (fun _ h => h.elim) ?aF ?aB ?aS ?aL ?_
                  (case aR => repeat (first | exact (Kd.V_reads' HO_205001.out).2.2 | (with_reducible refine Kd.C_alloc ?_ _) | (with_reducible refine Kd.C_drewN ?_ _) | (with_reducible refine Kd.C_drew ?_)))
                  (case aB => exact (by repeat (first | (with_reducible first | exact HB.out | apply below_alloc | apply pw_below_drewN | apply below_drew1 | refine below_set ?_ GE203.out | refine below_set ?_ GE204.out | refine below_set ?_ GE211.out | refine below_set ?_ GE218.out) | exact HB.out)))
                  (case aF => exact (fun k_ hk => (Nat.le_trans (below_size (by repeat (first | (with_reducible first | exact HB.out | apply below_alloc | apply pw_below_drewN | apply below_drew1 | refine below_set ?_ GE203.out | refine below_set ?_ GE204.out | refine below_set ?_ GE211.out | refine below_set ?_ GE218.out) | exact HB.out))) hk)))
                  (case aO => exact (by (with_reducible repeat (first | apply Kd.R_alloc | apply Kd.R_drewN | apply Kd.R_drew)); exact Kd.R_mono HO214.out (fun _ hk => hk.1)))
                  (case aS => exact (below_size (by repeat (first | (with_reducible first | exact HB.out | apply below_alloc | apply pw_below_drewN | apply below_drew1 | refine below_set ?_ GE203.out | refine below_set ?_ GE204.out | refine below_set ?_ GE211.out | refine below_set ?_ GE218.out) | exact HB.out))))
                  (case aL => have := LMc24.out; omega)
                  intro v216 w49 ho hb hg hat
                  rw [← Ny215.out] at ho
                  have n0_ := Aside0.mk (Kd.V_afterv (ok := (fun k_ => (P1_1_ k_ ∨ w.heap.size ≤ k_) ∧ some k_ ≠ (.slice Ao40 t207.length co40 : Value).ownBlock ∧ k_ ≠ gb203 ∧ k_ ≠ gb204 ∧ k_ ≠ gb211 ∧ k_ ≠ gb218)) (by (with_reducible repeat (first | apply Kd.V_alloc | apply Kd.V_drewN | apply Kd.V_drew)); exact Kd.V_mono HO_205001.out (fun _ hk => ⟨⟨hk.1.1.1, ⟨hk.1.1.2.1, ⟨hk.1.1.2.2.1, ⟨hk.1.1.2.2.2.1, ⟨hk.1.1.2.2.2.2, hk.1.2⟩⟩⟩⟩⟩, hk.2⟩)) hg hat)
                  have n1_ := Aside0.mk (blk_grown (g := gb203) (o := .cells #[.slice A0_0 l0_0.length c0_0, .int .i64 a0_1] 28 (0, 0)) (by (with_reducible repeat (first | refine blk_drewN ?_ _ | refine blk_drew ?_ | refine blk_alloc ?_ _)); exact BK203.out) hg (Kd.R_ne HO214.out BK203.out (by decide)))
                  have n2_ := Aside0.mk (blk_grown (g := gb204) (o := .cells #[.int .i64 a1_0, .slice A1_1 l1_1.length c1_1, .bool a1_2] 26 (0, 0)) (by (with_reducible repeat (first | refine blk_drewN ?_ _ | refine blk_drew ?_ | refine blk_alloc ?_ _)); exact BK204.out) hg (Kd.R_ne HO214.out BK204.out (by decide)))
                  have n3_ := Aside0.mk (Kd.N_afterv (ok := (fun k_ => (P1_1_ k_ ∨ w.heap.size ≤ k_) ∧ k_ ≠ gb203 ∧ k_ ≠ gb204 ∧ k_ ≠ gb211 ∧ k_ ≠ gb218)) (by (with_reducible repeat (first | apply Kd.N_alloc | apply Kd.N_drewN | apply Kd.N_drew)); exact Kd.N_mono HO209.out (fun _ hk => ⟨⟨hk.1.1.1, ⟨hk.1.1.2.1, ⟨hk.1.1.2.2.1, ⟨hk.1.1.2.2.2, hk.1.2⟩⟩⟩⟩, hk.2⟩)) hg hat)
                  have n4_ := Aside0.mk (blk_grown (g := gb211) (o := .cells #[.slice Ao40 t207.length co40, .int .i64 t210] 28 (0, 0)) (by (with_reducible repeat (first | refine blk_drewN ?_ _ | refine blk_drew ?_ | refine blk_alloc ?_ _)); exact BK211.out) hg (Kd.R_ne HO214.out BK211.out (by decide)))
                  have n5_ := Aside0.mk (blk_grown (g := gb218) (o := .cells #[.int .i64 0, .slice none 0 0, .bool false] 26 (0, 0)) (by (with_reducible repeat (first | refine blk_drewN ?_ _ | refine blk_drew ?_ | refine blk_alloc ?_ _)); exact BK218.out) hg (Kd.R_ne HO214.out BK218.out (by decide)))
                  have n6_ := Aside0.mk (hb)
                  have n7_ := Aside0.mk (ho)
                  clear HO_205001
                  clear BK203
                  clear BK204
                  clear HO209
                  clear BK211
                  clear BK218
                  clear HB
                  clear HO214
                  have HO_205001 := n0_
                  have BK203 := n1_
                  have BK204 := n2_
                  have HO209 := n3_
                  have BK211 := n4_
                  have BK218 := n5_
                  have HB := n6_
                  have HO217 := n7_
                  clear n0_ n1_ n2_ n3_ n4_ n5_ n6_ n7_
                  clear ho hb hg hat
                  obtain ⟨Ao50, co50, eo50⟩ := Kd.R_slice HO217.out
                  (first | subst eo50 | (injection eo50 with f1_ f2_ f3_; have f4_ := f1_.symm; have f5_ := f3_.symm; clear f1_ f2_ f3_; subst f4_; subst f5_))
                  refine hK.out _ _ ⟨(blk_cell BK204.out 0).trans rfl, (blk_cell BK204.out 1).trans rfl, (blk_cell BK204.out 2).trans rfl⟩ (fun hHeld => ?_)
                  clear hK K
                  refine norm_ (a' := ?_) ?_ ?_
                  rotate_left
                  · show Act.put _ (some 48) _ = _
                    simp only [Act.put, List.setIfInBounds_toArray, List.set_cons_zero, List.set_cons_succ, i64_w, i32_w]
                    rfl
                  refine pure_ (i := 8) (N := some 51) (v := ?_) (a' := ?_) #[true, true, true, true, true, true, true, true, true, true, false] rfl rfl (any_of HT_.out (by kernel_rfl)) (fun _ _ _ h => h) (Or.inl ⟨by rfl, ?_⟩) ?_ ?_
                  rotate_left
                  · intro w'
                    go_simp
                    with_reducible rfl
                  rotate_left
                  · simp only [Act.put, List.setIfInBounds_toArray, List.set_cons_zero, List.set_cons_succ, i64_w, i32_w]
                    rfl
                  exact norm_ (by simp only [putAll, Act.put, List.setIfInBounds_toArray, List.set_cons_zero, List.set_cons_succ]) (hCont (v213, .slice Ao50 y215.length co50, gb218) _ ⟨hHeld, (by (with_reducible repeat (first | apply Kd.N_alloc | apply Kd.N_drewN | apply Kd.N_drew)); exact Kd.N_mono HO209.out (fun _ hk => ⟨hk.1.1, ⟨hk.2, ⟨hk.1.2.1, ⟨hk.1.2.2.1, ⟨hk.1.2.2.2.1, hk.1.2.2.2.2⟩⟩⟩⟩⟩)), (by (with_reducible repeat (first | apply Kd.R_alloc | apply Kd.R_drewN | apply Kd.R_drew)); exact HO217.out), (by (with_reducible repeat (first | apply Kd.V_alloc | apply Kd.V_drewN | apply Kd.V_drew)); exact Kd.V_mono HO_205001.out (fun _ hk => ⟨hk.1.1, ⟨hk.1.2.1, ⟨hk.2, ⟨hk.1.2.2.1, ⟨hk.1.2.2.2.1, ⟨hk.1.2.2.2.2.1, hk.1.2.2.2.2.2⟩⟩⟩⟩⟩⟩)), (by (with_reducible repeat (first | refine blk_drewN ?_ _ | refine blk_drew ?_ | refine blk_alloc ?_ _)); exact BK203.out), (by (with_reducible repeat (first | refine blk_drewN ?_ _ | refine blk_drew ?_ | refine blk_alloc ?_ _)); exact BK204.out), (by (with_reducible repeat (first | refine blk_drewN ?_ _ | refine blk_drew ?_ | refine blk_alloc ?_ _)); exact BK211.out), (by (with_reducible repeat (first | refine blk_drewN ?_ _ | refine blk_drew ?_ | refine blk_alloc ?_ _)); exact BK218.out), GW218.out, GE218.out, NB203_218.out, NB218_203.out, NB204_218.out, NB218_204.out, NB211_218.out, NB218_211.out, (by repeat (first | (with_reducible first | exact HB.out | apply below_alloc | apply pw_below_drewN | apply below_drew1 | refine below_set ?_ GE203.out | refine below_set ?_ GE204.out | refine below_set ?_ GE211.out | refine below_set ?_ GE218.out) | exact HB.out))⟩)
              rintro ⟨v213, v216, gb218⟩ w51 ⟨hS_, h0_, h1_, h2_, h3_, h4_, h5_, h6_, h7_, h8_, h9_, h10_, h11_, h12_, h13_, h14_, h15_⟩
              have n0_ : Aside0 (Kd.N k26 26 w51 w.heap.size (fun k_ => (P1_1_ k_ ∨ w.heap.size ≤ k_) ∧ some k_ ≠ (v216 : Value).ownBlock ∧ k_ ≠ gb203 ∧ k_ ≠ gb204 ∧ k_ ≠ gb211 ∧ k_ ≠ gb218) (.slice Ao40 t207.length co40) t207) := ⟨h0_⟩
              have n1_ : Aside0 (Kd.R (Kd.int .u8) 5 w51 w.heap.size (fun k_ => (w.heap.size ≤ k_)) v216 y215) := ⟨h1_⟩
              have n2_ : Aside0 (Kd.V (Kd.int .u8) 5 w51 w.heap.size (fun k_ => (P1_1_ k_ ∨ w.heap.size ≤ k_) ∧ some k_ ≠ (.slice Ao40 t207.length co40 : Value).ownBlock ∧ some k_ ≠ (v216 : Value).ownBlock ∧ k_ ≠ gb203 ∧ k_ ≠ gb204 ∧ k_ ≠ gb211 ∧ k_ ≠ gb218) (.slice A1_1 l1_1.length c1_1) l1_1) := ⟨h2_⟩
              have n3_ : Aside0 (w51.heap[gb203]? = some (.cells #[.slice A0_0 l0_0.length c0_0, .int .i64 a0_1] 28 (0, 0))) := ⟨h3_⟩
              have n4_ : Aside0 (w51.heap[gb204]? = some (.cells #[.int .i64 a1_0, .slice A1_1 l1_1.length c1_1, .bool a1_2] 26 (0, 0))) := ⟨h4_⟩
              have n5_ : Aside0 (w51.heap[gb211]? = some (.cells #[.slice Ao40 t207.length co40, .int .i64 t210] 28 (0, 0))) := ⟨h5_⟩
              have n6_ : Aside0 (w51.heap[gb218]? = some (.cells #[.int .i64 0, .slice none 0 0, .bool false] 26 (0, 0))) := ⟨h6_⟩
              have n7_ : Aside0 (w.heap.size ≤ gb218) := ⟨h7_⟩
              have n8_ : Aside0 (w.heap.size ≤ gb218) := ⟨h8_⟩
              have n9_ : Aside0 (gb203 ≠ gb218) := ⟨h9_⟩
              have n10_ : Aside0 (gb218 ≠ gb203) := ⟨h10_⟩
              have n11_ : Aside0 (gb204 ≠ gb218) := ⟨h11_⟩
              have n12_ : Aside0 (gb218 ≠ gb204) := ⟨h12_⟩
              have n13_ : Aside0 (gb211 ≠ gb218) := ⟨h13_⟩
              have n14_ : Aside0 (gb218 ≠ gb211) := ⟨h14_⟩
              have n15_ : Aside0 (Below w.heap.size w w51) := ⟨h15_⟩
              clear HO_205001
              clear HO209
              clear BK203
              clear BK204
              clear BK211
              clear HB
              clear h0_ h1_ h2_ h3_ h4_ h5_ h6_ h7_ h8_ h9_ h10_ h11_ h12_ h13_ h14_ h15_
              have HO209 := n0_
              have HO217 := n1_
              have HO_205001 := n2_
              have BK203 := n3_
              have BK204 := n4_
              have BK211 := n5_
              have BK218 := n6_
              have GW218 := n7_
              have GE218 := n8_
              have NB203_218 := n9_
              have NB218_203 := n10_
              have NB204_218 := n11_
              have NB218_204 := n12_
              have NB211_218 := n13_
              have NB218_211 := n14_
              have HB := n15_
              clear n0_ n1_ n2_ n3_ n4_ n5_ n6_ n7_ n8_ n9_ n10_ n11_ n12_ n13_ n14_ n15_
              have hHeld : w51.cell? ⟨gb204, 0, none⟩ = some (.int .i64 a1_0) ∧ w51.cell? ⟨gb204, 1, none⟩ = some (.slice A1_1 l1_1.length c1_1) ∧ w51.cell? ⟨gb204, 2, none⟩ = some (.bool a1_2) := hS_
              obtain ⟨Ao52, co52, eo52⟩ := Kd.R_slice HO217.out
              (first | subst eo52 | (injection eo52 with f1_ f2_ f3_; have f4_ := f1_.symm; have f5_ := f3_.symm; clear f1_ f2_ f3_; subst f4_; subst f5_))
              refine norm_ (a' := ?_) ?_ ?_
              rotate_left
              · simp only [putAll, Act.put, List.setIfInBounds_toArray, List.set_cons_zero, List.set_cons_succ]
                rfl
              refine one_ (i := 10) (N := none) #[true, true, true, true, true, true, true, true, true, true, true] rfl rfl (one_of HT_.out (by kernel_rfl)) (by decide) (fun K hK => ?_)
              have hs53 : w51.cell? ⟨gb218, 0, none⟩ = some (.int .i64 0) := (blk_cell BK218.out 0).trans rfl
              have hfs53 := blk_frozen BK218.out 0
              have hns53_0 := NB203_218.out
              have hns53_1 := NB204_218.out
              have hns53_2 := NB211_218.out
              have hms53_0 := NB218_203.out
              have hms53_1 := NB218_204.out
              have hms53_2 := NB218_211.out
              have hs54 : w51.cell? ⟨gb218, 1, none⟩ = some (.slice none 0 0) := (blk_cell BK218.out 1).trans rfl
              have hfs54 := blk_frozen BK218.out 1
              have hns54_0 := NB203_218.out
              have hns54_1 := NB204_218.out
              have hns54_2 := NB211_218.out
              have hms54_0 := NB218_203.out
              have hms54_1 := NB218_204.out
              have hms54_2 := NB218_211.out
              have hs55 : w51.cell? ⟨gb218, 2, none⟩ = some (.bool false) := (blk_cell BK218.out 2).trans rfl
              have hfs55 := blk_frozen BK218.out 2
              have hns55_0 := NB203_218.out
              have hns55_1 := NB204_218.out
              have hns55_2 := NB211_218.out
              have hms55_0 := NB218_203.out
              have hms55_1 := NB218_204.out
              have hms55_2 := NB218_211.out
              refine skip_ (w1 := ?_) (by rfl) rfl ?_ ?_
              rotate_left
              · go_simp
                rfl
              refine hK.out _ _ ⟨((cell_far (p := ⟨gb218, _, none⟩) NB204_218.out _).trans (((cell_far (p := ⟨gb218, _, none⟩) NB204_218.out _).trans (((cell_far (p := ⟨gb218, _, none⟩) NB204_218.out _).trans (hHeld.1)))))), ((cell_far (p := ⟨gb218, _, none⟩) NB204_218.out _).trans (((cell_far (p := ⟨gb218, _, none⟩) NB204_218.out _).trans (((cell_far (p := ⟨gb218, _, none⟩) NB204_218.out _).trans (hHeld.2.1)))))), ((cell_far (p := ⟨gb218, _, none⟩) NB204_218.out _).trans (((cell_far (p := ⟨gb218, _, none⟩) NB204_218.out _).trans (((cell_far (p := ⟨gb218, _, none⟩) NB204_218.out _).trans (hHeld.2.2))))))⟩ (fun hHeld => ?_)
              clear hK K
              refine done_ (done_of HT_.out (by kernel_rfl)) ?_
              have n0_ : Aside0 (Kd.V (Kd.int .u8) 5 (((w51.setCell ⟨gb218, 0, none⟩ (.int .i64 a1_0)).setCell ⟨gb218, 1, none⟩ (.slice Ao52 y215.length co52)).setCell ⟨gb218, 2, none⟩ (.bool a1_2)) w.heap.size (fun k_ => (P1_1_ k_ ∨ w.heap.size ≤ k_) ∧ some k_ ≠ (.slice Ao40 t207.length co40 : Value).ownBlock ∧ some k_ ≠ (.slice Ao52 y215.length co52 : Value).ownBlock ∧ k_ ≠ gb203 ∧ k_ ≠ gb204 ∧ k_ ≠ gb211 ∧ k_ ≠ gb218) (.slice A1_1 l1_1.length c1_1) l1_1) := ⟨by (with_reducible repeat (first | apply Kd.V_alloc | apply Kd.V_drewN | apply Kd.V_drew)); exact Kd.V_mono (Kd.V_far (p := ⟨gb218, 2, none⟩) (Kd.V_far (p := ⟨gb218, 1, none⟩) (Kd.V_far (p := ⟨gb218, 0, none⟩) (Kd.V_mono HO_205001.out (fun k_ hk => (⟨hk, hk.2.2.2.2.2.2⟩ : _ ∧ k_ ≠ gb218))) (fun _ hk => hk.2) (.int .i64 a1_0)) (fun _ hk => hk.2) (.slice Ao52 y215.length co52)) (fun _ hk => hk.2) (.bool a1_2)) (fun _ hk => ⟨hk.1.1, ⟨hk.1.2.1, ⟨hk.1.2.2.1, ⟨hk.1.2.2.2.1, ⟨hk.1.2.2.2.2.1, ⟨hk.1.2.2.2.2.2.1, hk.1.2.2.2.2.2.2⟩⟩⟩⟩⟩⟩)⟩
              have n1_ : Aside0 (Kd.N k26 26 (((w51.setCell ⟨gb218, 0, none⟩ (.int .i64 a1_0)).setCell ⟨gb218, 1, none⟩ (.slice Ao52 y215.length co52)).setCell ⟨gb218, 2, none⟩ (.bool a1_2)) w.heap.size (fun k_ => (P1_1_ k_ ∨ w.heap.size ≤ k_) ∧ some k_ ≠ (.slice Ao52 y215.length co52 : Value).ownBlock ∧ k_ ≠ gb203 ∧ k_ ≠ gb204 ∧ k_ ≠ gb211 ∧ k_ ≠ gb218) (.slice Ao40 t207.length co40) t207) := ⟨by (with_reducible repeat (first | apply Kd.N_alloc | apply Kd.N_drewN | apply Kd.N_drew)); exact Kd.N_mono (Kd.N_far (p := ⟨gb218, 2, none⟩) (Kd.N_far (p := ⟨gb218, 1, none⟩) (Kd.N_far (p := ⟨gb218, 0, none⟩) (Kd.N_mono HO209.out (fun k_ hk => (⟨hk, hk.2.2.2.2.2⟩ : _ ∧ k_ ≠ gb218))) (fun _ hk => hk.2) (.int .i64 a1_0)) (fun _ hk => hk.2) (.slice Ao52 y215.length co52)) (fun _ hk => hk.2) (.bool a1_2)) (fun _ hk => ⟨hk.1.1, ⟨hk.1.2.1, ⟨hk.1.2.2.1, ⟨hk.1.2.2.2.1, ⟨hk.1.2.2.2.2.1, hk.1.2.2.2.2.2⟩⟩⟩⟩⟩)⟩
              have n2_ : Aside0 (Kd.R (Kd.int .u8) 5 (((w51.setCell ⟨gb218, 0, none⟩ (.int .i64 a1_0)).setCell ⟨gb218, 1, none⟩ (.slice Ao52 y215.length co52)).setCell ⟨gb218, 2, none⟩ (.bool a1_2)) w.heap.size (fun k_ => (w.heap.size ≤ k_)) (.slice Ao52 y215.length co52) y215) := ⟨by (with_reducible repeat (first | apply Kd.R_alloc | apply Kd.R_drewN | apply Kd.R_drew)); exact Kd.R_mono (Kd.R_far (p := ⟨gb218, 2, none⟩) (Kd.R_far (p := ⟨gb218, 1, none⟩) (Kd.R_far (p := ⟨gb218, 0, none⟩) (Kd.R_types HO217.out BK218.out (by decide)) (fun _ hk => hk.2) (.int .i64 a1_0)) (fun _ hk => hk.2) (.slice Ao52 y215.length co52)) (fun _ hk => hk.2) (.bool a1_2)) (fun _ hk => hk.1)⟩
              have n3_ : Aside0 ((((w51.setCell ⟨gb218, 0, none⟩ (.int .i64 a1_0)).setCell ⟨gb218, 1, none⟩ (.slice Ao52 y215.length co52)).setCell ⟨gb218, 2, none⟩ (.bool a1_2)).heap[gb203]? = some (.cells #[.slice A0_0 l0_0.length c0_0, .int .i64 a0_1] 28 (0, 0))) := ⟨by (with_reducible repeat (first | refine blk_drewN ?_ _ | refine blk_drew ?_ | refine blk_alloc ?_ _)); refine blk_far ?_ NB203_218.out _; (with_reducible repeat (first | refine blk_drewN ?_ _ | refine blk_drew ?_ | refine blk_alloc ?_ _)); refine blk_far ?_ NB203_218.out _; (with_reducible repeat (first | refine blk_drewN ?_ _ | refine blk_drew ?_ | refine blk_alloc ?_ _)); refine blk_far ?_ NB203_218.out _; (with_reducible repeat (first | refine blk_drewN ?_ _ | refine blk_drew ?_ | refine blk_alloc ?_ _)); exact BK203.out⟩
              have n4_ : Aside0 ((((w51.setCell ⟨gb218, 0, none⟩ (.int .i64 a1_0)).setCell ⟨gb218, 1, none⟩ (.slice Ao52 y215.length co52)).setCell ⟨gb218, 2, none⟩ (.bool a1_2)).heap[gb204]? = some (.cells #[.int .i64 a1_0, .slice A1_1 l1_1.length c1_1, .bool a1_2] 26 (0, 0))) := ⟨by (with_reducible repeat (first | refine blk_drewN ?_ _ | refine blk_drew ?_ | refine blk_alloc ?_ _)); refine blk_far ?_ NB204_218.out _; (with_reducible repeat (first | refine blk_drewN ?_ _ | refine blk_drew ?_ | refine blk_alloc ?_ _)); refine blk_far ?_ NB204_218.out _; (with_reducible repeat (first | refine blk_drewN ?_ _ | refine blk_drew ?_ | refine blk_alloc ?_ _)); refine blk_far ?_ NB204_218.out _; (with_reducible repeat (first | refine blk_drewN ?_ _ | refine blk_drew ?_ | refine blk_alloc ?_ _)); exact BK204.out⟩
              have n5_ : Aside0 ((((w51.setCell ⟨gb218, 0, none⟩ (.int .i64 a1_0)).setCell ⟨gb218, 1, none⟩ (.slice Ao52 y215.length co52)).setCell ⟨gb218, 2, none⟩ (.bool a1_2)).heap[gb211]? = some (.cells #[.slice Ao40 t207.length co40, .int .i64 t210] 28 (0, 0))) := ⟨by (with_reducible repeat (first | refine blk_drewN ?_ _ | refine blk_drew ?_ | refine blk_alloc ?_ _)); refine blk_far ?_ NB211_218.out _; (with_reducible repeat (first | refine blk_drewN ?_ _ | refine blk_drew ?_ | refine blk_alloc ?_ _)); refine blk_far ?_ NB211_218.out _; (with_reducible repeat (first | refine blk_drewN ?_ _ | refine blk_drew ?_ | refine blk_alloc ?_ _)); refine blk_far ?_ NB211_218.out _; (with_reducible repeat (first | refine blk_drewN ?_ _ | refine blk_drew ?_ | refine blk_alloc ?_ _)); exact BK211.out⟩
              have n6_ : Aside0 ((((w51.setCell ⟨gb218, 0, none⟩ (.int .i64 a1_0)).setCell ⟨gb218, 1, none⟩ (.slice Ao52 y215.length co52)).setCell ⟨gb218, 2, none⟩ (.bool a1_2)).heap[gb218]? = some (.cells #[.int .i64 a1_0, .slice Ao52 y215.length co52, .bool a1_2] 26 (0, 0))) := ⟨by (with_reducible repeat (first | refine blk_drewN ?_ _ | refine blk_drew ?_ | refine blk_alloc ?_ _)); refine blk_put (cs := #[.int .i64 a1_0, .slice Ao52 y215.length co52, .bool false]) ?_ 2 _ rfl; (with_reducible repeat (first | refine blk_drewN ?_ _ | refine blk_drew ?_ | refine blk_alloc ?_ _)); refine blk_put (cs := #[.int .i64 a1_0, .slice none 0 0, .bool false]) ?_ 1 _ rfl; (with_reducible repeat (first | refine blk_drewN ?_ _ | refine blk_drew ?_ | refine blk_alloc ?_ _)); refine blk_put (cs := #[.int .i64 0, .slice none 0 0, .bool false]) ?_ 0 _ rfl; (with_reducible repeat (first | refine blk_drewN ?_ _ | refine blk_drew ?_ | refine blk_alloc ?_ _)); exact BK218.out⟩
              have n7_ : Aside0 (Below w.heap.size w (((w51.setCell ⟨gb218, 0, none⟩ (.int .i64 a1_0)).setCell ⟨gb218, 1, none⟩ (.slice Ao52 y215.length co52)).setCell ⟨gb218, 2, none⟩ (.bool a1_2))) := ⟨by repeat (first | (with_reducible first | exact HB.out | apply below_alloc | apply pw_below_drewN | apply below_drew1 | refine below_set ?_ GE203.out | refine below_set ?_ GE204.out | refine below_set ?_ GE211.out | refine below_set ?_ GE218.out) | exact HB.out)⟩
              (try clear HO_205001)
              (try clear HO209)
              (try clear HO217)
              (try clear BK203)
              (try clear BK204)
              (try clear BK211)
              (try clear BK218)
              (try clear HB)
              generalize (((w51.setCell ⟨gb218, 0, none⟩ (.int .i64 a1_0)).setCell ⟨gb218, 1, none⟩ (.slice Ao52 y215.length co52)).setCell ⟨gb218, 2, none⟩ (.bool a1_2)) = w56 at n0_ n1_ n2_ n3_ n4_ n5_ n6_ n7_ ⊢
              have HO_205001 := n0_
              have HO209 := n1_
              have HO217 := n2_
              have BK203 := n3_
              have BK204 := n4_
              have BK211 := n5_
              have BK218 := n6_
              have HB := n7_
              clear n0_ n1_ n2_ n3_ n4_ n5_ n6_ n7_
              have HL := Aside0.mk (Below.refl w56.heap.size w56)
              have HBw := Aside0.mk HB.out
              have hq0 : w56.cell? ⟨gb203, 0, none⟩ = some (.slice A0_0 l0_0.length c0_0) := (blk_cell BK203.out 0).trans rfl
              have hq1 : w56.cell? ⟨gb203, 1, none⟩ = some (.int .i64 a0_1) := (blk_cell BK203.out 1).trans rfl
              have hg0 : w56.cell? ⟨gb204, 0, none⟩ = some (.int .i64 a1_0) := (blk_cell BK204.out 0).trans rfl
              have hg1 : w56.cell? ⟨gb204, 1, none⟩ = some (.slice A1_1 l1_1.length c1_1) := (blk_cell BK204.out 1).trans rfl
              have hg2 : w56.cell? ⟨gb204, 2, none⟩ = some (.bool a1_2) := (blk_cell BK204.out 2).trans rfl
              go_upto_region 6 with (go_at_call 7; refine Stop.out ?_)
              obtain ⟨gr, hgr⟩ : ∃ b, w56.heap.size = b := ⟨_, rfl⟩
              obtain ⟨P0, hP0⟩ : ∃ W, w56.alloc (.cells #[.int .i64 a1_0, .slice A1_1 l1_1.length c1_1, .bool a1_2] 26) = W := ⟨_, rfl⟩
              have hb4 : Below w56.heap.size w56 P0 := by rw [← hP0]; exact below_alloc (Below.refl _ _) _
              have HKr := Aside0.mk (show P0.heap[gr]? = some (.cells #[.int .i64 a1_0, .slice A1_1 l1_1.length c1_1, .bool a1_2] 26 (0, 0)) by rw [← hP0, ← hgr]; exact World.alloc_heap_new w56 _)
              have HL0 := Aside0.mk hb4
              have HL00 := Aside0.mk (show w56.heap.size ≤ P0.heap.size from hb4.size)
              rw [hP0, hgr]
              clear hP0 hgr hb4 hq0 hq1 hg0 hg1 hg2 HL
              refine ⟨?_⟩
              refine (bag_Send.calls A0_0 c0_0 l0_0 a0_1 (some ⟨gr, 0, none⟩) 1 [⟨a1_0, l1_1, a1_2⟩] t222 t225 _ (Kd.C_below HR0_0.out (HBw.out.trans (HL0.out.mono HBw.out.size))) HC0_0.out (row1 (x := ⟨a1_0, l1_1, a1_2⟩) HKr.out (Kd.V_reads' HO_205001.out).2.1 (Kd.C_below (Kd.V_reads' HO_205001.out).2.2 HL0.out)) (Nat.le_refl _) (by rw [← Ny219.out]; exact A25.out)).mono ?_
              rintro e V0 ⟨v0_, rfl, hS, hb⟩
              clear HKr
              dsimp only
              obtain ⟨Ag0, cg0, rfl⟩ := Kd.S_slice hS
              have HS0 := Aside0.mk (Kd.S_lower (Kd.S_mono (ok' := fun q => (P0.heap.size ≤ q ∧ q < V0.heap.size)) (Kd.S_bound hS) (fun k_ hk_ => ⟨hk_.2.1, hk_.2.2.1⟩)) (HL0.out.size))
              have LE0 := Aside0.mk (show P0.heap.size ≤ V0.heap.size from hb.size)
              have HM0 := Aside0.mk (HL0.out.trans (hb.mono HL0.out.size))
              clear hS hb HL0
              go_upto_region 6 with (fail)
              obtain ⟨P1, hP⟩ : ∃ W, V0.alloc (.cells #[.slice Ag0 t222.length cg0, .int .i64 t225] 28) = W := ⟨_, rfl⟩
              have hb : Below V0.heap.size V0 P1 := by rw [← hP]; exact below_alloc (Below.refl _ _) _
              have BX0 := Aside0.mk (show P1.heap[V0.heap.size]? = some (.cells #[.slice Ag0 t222.length cg0, .int .i64 t225] 28 (0, 0)) by rw [← hP]; exact World.alloc_heap_new V0 _)
              have LF0 := Aside0.mk (show V0.heap.size ≤ P1.heap.size from hb.size)
              have HL1 := Aside0.mk (HM0.out.trans (hb.mono HM0.out.size))
              have n_ := Aside0.mk (Kd.S_below HS0.out hb)
              clear HS0
              have HS0 := n_
              clear n_
              rw [hP]
              clear hP hb HM0
              have hq0 : P1.cell? ⟨gb203, 0, none⟩ = some (.slice A0_0 l0_0.length c0_0) := (blk_cell (blk_below BK203.out HL1.out) 0).trans rfl
              have hq1 : P1.cell? ⟨gb203, 1, none⟩ = some (.int .i64 a0_1) := (blk_cell (blk_below BK203.out HL1.out) 1).trans rfl
              go_upto_region 7 with (go_at_call 9; refine Stop.out ?_)
              clear hq0 hq1
              refine ⟨?_⟩
              refine (bag_Take.calls A0_0 c0_0 l0_0 a0_1 a2 t227 t230 t231 t232 t235 t236 _ (Kd.C_below HR0_0.out (HBw.out.trans (HL1.out.mono HBw.out.size))) HC0_0.out A26.out).mono ?_
              rintro e V1 ⟨v0_, v3_, rfl, hS, hRy, hb⟩
              dsimp only
              obtain ⟨Ag1, cg1, rfl⟩ := Kd.S_slice hS
              have HS1 := Aside0.mk (Kd.S_lower (Kd.S_mono (ok' := fun q => (P1.heap.size ≤ q ∧ q < V1.heap.size) ∧ some q ≠ (v3_ : Value).ownBlock) (Kd.S_bound hS) (fun k_ hk_ => ⟨⟨hk_.2.1, hk_.2.2.1⟩, hk_.1⟩)) (HL1.out.size))
              have LE1 := Aside0.mk (show P1.heap.size ≤ V1.heap.size from hb.size)
              have HY := Aside0.mk (Kd.R_lower (Kd.R_mono (ok' := fun q => P1.heap.size ≤ q ∧ q < V1.heap.size) (Kd.R_bound hRy) (fun k_ hk_ => ⟨hk_.2.1, hk_.2.2.1⟩)) (HL1.out.size))
              have HM1 := Aside0.mk (HL1.out.trans (hb.mono HL1.out.size))
              have n_ := Aside0.mk (Kd.S_below HS0.out hb)
              clear HS0
              have HS0 := n_
              clear n_
              have n_ := Aside0.mk (blk_below BX0.out hb)
              clear BX0
              have BX0 := n_
              clear n_
              clear hS hb HL1 hRy
              obtain ⟨Ay, cy, rfl⟩ := Kd.R_slice HY.out
              go_upto_region 7 with (fail)
              obtain ⟨P2, hP⟩ : ∃ W, (V1.alloc (.cells #[.slice Ag1 t227.length cg1, .int .i64 t230] 28)).alloc (.cells #[.int .i64 t231, .slice Ay t232.length cy, .bool t235] 26) = W := ⟨_, rfl⟩
              have hb : Below V1.heap.size V1 P2 := by rw [← hP]; exact below_alloc (below_alloc (Below.refl _ _) _) _
              have BX1 := Aside0.mk (show P2.heap[V1.heap.size]? = some (.cells #[.slice Ag1 t227.length cg1, .int .i64 t230] 28 (0, 0)) by rw [← hP]; exact blk_alloc (World.alloc_heap_new V1 _) _)
              have BY := Aside0.mk (show P2.heap[V1.heap.size + 1]? = some (.cells #[.int .i64 t231, .slice Ay t232.length cy, .bool t235] 26 (0, 0)) by rw [← hP]; exact (by have h := World.alloc_heap_new (V1.alloc (.cells #[.slice Ag1 t227.length cg1, .int .i64 t230] 28)) (.cells #[.int .i64 t231, .slice Ay t232.length cy, .bool t235] 26); simpa using h))
              have LY := Aside0.mk (show V1.heap.size + 1 < P2.heap.size from (Array.getElem?_eq_some_iff.mp BY.out).1)
              have LF1 := Aside0.mk (show V1.heap.size ≤ P2.heap.size from hb.size)
              have HL2 := Aside0.mk (HM1.out.trans (hb.mono HM1.out.size))
              have n_ := Aside0.mk (Kd.S_below HS0.out hb)
              clear HS0
              have HS0 := n_
              clear n_
              have n_ := Aside0.mk (blk_below BX0.out hb)
              clear BX0
              have BX0 := n_
              clear n_
              have n_ := Aside0.mk (Kd.S_below HS1.out hb)
              clear HS1
              have HS1 := n_
              clear n_
              have n_ := Aside0.mk (Kd.R_below HY.out hb)
              clear HY
              have HY := n_
              clear n_
              rw [hP]
              clear hP hb HM1
              have hq0 : P2.cell? ⟨gb203, 0, none⟩ = some (.slice A0_0 l0_0.length c0_0) := (blk_cell (blk_below BK203.out HL2.out) 0).trans rfl
              have hq1 : P2.cell? ⟨gb203, 1, none⟩ = some (.int .i64 a0_1) := (blk_cell (blk_below BK203.out HL2.out) 1).trans rfl
              go_upto_region 8 with (go_at_call 13; refine Stop.out ?_)
              clear hq0 hq1
              refine ⟨?_⟩
              refine (bag_Drop.calls A0_0 c0_0 l0_0 a0_1 a2 t239 t242 t243 _ (Kd.C_below HR0_0.out (HBw.out.trans (HL2.out.mono HBw.out.size))) HC0_0.out A27.out).mono ?_
              rintro e V2 ⟨v0_, rfl, hS, hb⟩
              dsimp only
              obtain ⟨Ag2, cg2, rfl⟩ := Kd.S_slice hS
              have HS2 := Aside0.mk (Kd.S_lower (Kd.S_mono (ok' := fun q => (P2.heap.size ≤ q ∧ q < V2.heap.size)) (Kd.S_bound hS) (fun k_ hk_ => ⟨hk_.2.1, hk_.2.2.1⟩)) (HL2.out.size))
              have LE2 := Aside0.mk (show P2.heap.size ≤ V2.heap.size from hb.size)
              have HM2 := Aside0.mk (HL2.out.trans (hb.mono HL2.out.size))
              have n_ := Aside0.mk (Kd.S_below HS0.out hb)
              clear HS0
              have HS0 := n_
              clear n_
              have n_ := Aside0.mk (blk_below BX0.out hb)
              clear BX0
              have BX0 := n_
              clear n_
              have n_ := Aside0.mk (Kd.S_below HS1.out hb)
              clear HS1
              have HS1 := n_
              clear n_
              have n_ := Aside0.mk (Kd.R_below HY.out hb)
              clear HY
              have HY := n_
              clear n_
              have n_ := Aside0.mk (blk_below BX1.out hb)
              clear BX1
              have BX1 := n_
              clear n_
              have n_ := Aside0.mk (blk_below BY.out hb)
              clear BY
              have BY := n_
              clear n_
              clear hS hb HL2
              go_upto_region 8 with (fail)
              obtain ⟨P3, hP⟩ : ∃ W, V2.alloc (.cells #[.slice Ag2 t239.length cg2, .int .i64 t242] 28) = W := ⟨_, rfl⟩
              have hb : Below V2.heap.size V2 P3 := by rw [← hP]; exact below_alloc (Below.refl _ _) _
              have BX2 := Aside0.mk (show P3.heap[V2.heap.size]? = some (.cells #[.slice Ag2 t239.length cg2, .int .i64 t242] 28 (0, 0)) by rw [← hP]; exact World.alloc_heap_new V2 _)
              have LF2 := Aside0.mk (show V2.heap.size ≤ P3.heap.size from hb.size)
              have HL3 := Aside0.mk (HM2.out.trans (hb.mono HM2.out.size))
              have n_ := Aside0.mk (Kd.S_below HS0.out hb)
              clear HS0
              have HS0 := n_
              clear n_
              have n_ := Aside0.mk (blk_below BX0.out hb)
              clear BX0
              have BX0 := n_
              clear n_
              have n_ := Aside0.mk (Kd.S_below HS1.out hb)
              clear HS1
              have HS1 := n_
              clear n_
              have n_ := Aside0.mk (Kd.R_below HY.out hb)
              clear HY
              have HY := n_
              clear n_
              have n_ := Aside0.mk (blk_below BX1.out hb)
              clear BX1
              have BX1 := n_
              clear n_
              have n_ := Aside0.mk (blk_below BY.out hb)
              clear BY
              have BY := n_
              clear n_
              have n_ := Aside0.mk (Kd.S_below HS2.out hb)
              clear HS2
              have HS2 := n_
              clear n_
              rw [hP]
              clear hP hb HM2
              have hq0 : P3.cell? ⟨gb203, 0, none⟩ = some (.slice A0_0 l0_0.length c0_0) := (blk_cell (blk_below BK203.out HL3.out) 0).trans rfl
              have hq1 : P3.cell? ⟨gb203, 1, none⟩ = some (.int .i64 a0_1) := (blk_cell (blk_below BK203.out HL3.out) 1).trans rfl
              go_upto_region 9 with (go_at_call 14; refine Stop.out ?_)
              clear hq0 hq1
              refine ⟨?_⟩
              refine (bag_Twice.calls A0_0 c0_0 l0_0 a0_1 a2 t245 t248 t249 _ (Kd.C_below HR0_0.out (HBw.out.trans (HL3.out.mono HBw.out.size))) HC0_0.out A28.out).mono ?_
              rintro e V3 ⟨v0_, rfl, hS, hb⟩
              dsimp only
              obtain ⟨Ag3, cg3, rfl⟩ := Kd.S_slice hS
              have HS3 := Aside0.mk (Kd.S_lower (Kd.S_mono (ok' := fun q => (P3.heap.size ≤ q ∧ q < V3.heap.size)) (Kd.S_bound hS) (fun k_ hk_ => ⟨hk_.2.1, hk_.2.2.1⟩)) (HL3.out.size))
              have LE3 := Aside0.mk (show P3.heap.size ≤ V3.heap.size from hb.size)
              have HM3 := Aside0.mk (HL3.out.trans (hb.mono HL3.out.size))
              have n_ := Aside0.mk (Kd.S_below HS0.out hb)
              clear HS0
              have HS0 := n_
              clear n_
              have n_ := Aside0.mk (blk_below BX0.out hb)
              clear BX0
              have BX0 := n_
              clear n_
              have n_ := Aside0.mk (Kd.S_below HS1.out hb)
              clear HS1
              have HS1 := n_
              clear n_
              have n_ := Aside0.mk (Kd.R_below HY.out hb)
              clear HY
              have HY := n_
              clear n_
              have n_ := Aside0.mk (blk_below BX1.out hb)
              clear BX1
              have BX1 := n_
              clear n_
              have n_ := Aside0.mk (blk_below BY.out hb)
              clear BY
              have BY := n_
              clear n_
              have n_ := Aside0.mk (Kd.S_below HS2.out hb)
              clear HS2
              have HS2 := n_
              clear n_
              have n_ := Aside0.mk (blk_below BX2.out hb)
              clear BX2
              have BX2 := n_
              clear n_
              clear hS hb HL3
              go_upto_region 9 with (fail)
              obtain ⟨P4, hP⟩ : ∃ W, V3.alloc (.cells #[.slice Ag3 t245.length cg3, .int .i64 t248] 28) = W := ⟨_, rfl⟩
              have hb : Below V3.heap.size V3 P4 := by rw [← hP]; exact below_alloc (Below.refl _ _) _
              have BX3 := Aside0.mk (show P4.heap[V3.heap.size]? = some (.cells #[.slice Ag3 t245.length cg3, .int .i64 t248] 28 (0, 0)) by rw [← hP]; exact World.alloc_heap_new V3 _)
              have LF3 := Aside0.mk (show V3.heap.size ≤ P4.heap.size from hb.size)
              have HL4 := Aside0.mk (HM3.out.trans (hb.mono HM3.out.size))
              have n_ := Aside0.mk (Kd.S_below HS0.out hb)
              clear HS0
              have HS0 := n_
              clear n_
              have n_ := Aside0.mk (blk_below BX0.out hb)
              clear BX0
              have BX0 := n_
              clear n_
              have n_ := Aside0.mk (Kd.S_below HS1.out hb)
              clear HS1
              have HS1 := n_
              clear n_
              have n_ := Aside0.mk (Kd.R_below HY.out hb)
              clear HY
              have HY := n_
              clear n_
              have n_ := Aside0.mk (blk_below BX1.out hb)
              clear BX1
              have BX1 := n_
              clear n_
              have n_ := Aside0.mk (blk_below BY.out hb)
              clear BY
              have BY := n_
              clear n_
              have n_ := Aside0.mk (Kd.S_below HS2.out hb)
              clear HS2
              have HS2 := n_
              clear n_
              have n_ := Aside0.mk (blk_below BX2.out hb)
              clear BX2
              have BX2 := n_
              clear n_
              have n_ := Aside0.mk (Kd.S_below HS3.out hb)
              clear HS3
              have HS3 := n_
              clear n_
              rw [hP]
              clear hP hb HM3
              have hq0 : P4.cell? ⟨gb203, 0, none⟩ = some (.slice A0_0 l0_0.length c0_0) := (blk_cell (blk_below BK203.out HL4.out) 0).trans rfl
              have hq1 : P4.cell? ⟨gb203, 1, none⟩ = some (.int .i64 a0_1) := (blk_cell (blk_below BK203.out HL4.out) 1).trans rfl
              go_upto_region 10 with (go_at_call 15; refine Stop.out ?_)
              clear hq0 hq1
              refine ⟨?_⟩
              refine (bag_Harm.calls A0_0 c0_0 l0_0 a0_1 a2 a3 1 t251 t254 t255 _ (Kd.C_below HR0_0.out (HBw.out.trans (HL4.out.mono HBw.out.size))) HC0_0.out A29.out).mono ?_
              rintro e V4 ⟨v0_, rfl, hS, hb⟩
              dsimp only
              obtain ⟨Ag4, cg4, rfl⟩ := Kd.S_slice hS
              have HS4 := Aside0.mk (Kd.S_lower (Kd.S_mono (ok' := fun q => (P4.heap.size ≤ q ∧ q < V4.heap.size)) (Kd.S_bound hS) (fun k_ hk_ => ⟨hk_.2.1, hk_.2.2.1⟩)) (HL4.out.size))
              have LE4 := Aside0.mk (show P4.heap.size ≤ V4.heap.size from hb.size)
              have HM4 := Aside0.mk (HL4.out.trans (hb.mono HL4.out.size))
              have n_ := Aside0.mk (Kd.S_below HS0.out hb)
              clear HS0
              have HS0 := n_
              clear n_
              have n_ := Aside0.mk (blk_below BX0.out hb)
              clear BX0
              have BX0 := n_
              clear n_
              have n_ := Aside0.mk (Kd.S_below HS1.out hb)
              clear HS1
              have HS1 := n_
              clear n_
              have n_ := Aside0.mk (Kd.R_below HY.out hb)
              clear HY
              have HY := n_
              clear n_
              have n_ := Aside0.mk (blk_below BX1.out hb)
              clear BX1
              have BX1 := n_
              clear n_
              have n_ := Aside0.mk (blk_below BY.out hb)
              clear BY
              have BY := n_
              clear n_
              have n_ := Aside0.mk (Kd.S_below HS2.out hb)
              clear HS2
              have HS2 := n_
              clear n_
              have n_ := Aside0.mk (blk_below BX2.out hb)
              clear BX2
              have BX2 := n_
              clear n_
              have n_ := Aside0.mk (Kd.S_below HS3.out hb)
              clear HS3
              have HS3 := n_
              clear n_
              have n_ := Aside0.mk (blk_below BX3.out hb)
              clear BX3
              have BX3 := n_
              clear n_
              clear hS hb HL4
              go_upto_region 10 with (fail)
              obtain ⟨P5, hP⟩ : ∃ W, V4.alloc (.cells #[.slice Ag4 t251.length cg4, .int .i64 t254] 28) = W := ⟨_, rfl⟩
              have hb : Below V4.heap.size V4 P5 := by rw [← hP]; exact below_alloc (Below.refl _ _) _
              have BX4 := Aside0.mk (show P5.heap[V4.heap.size]? = some (.cells #[.slice Ag4 t251.length cg4, .int .i64 t254] 28 (0, 0)) by rw [← hP]; exact World.alloc_heap_new V4 _)
              have LF4 := Aside0.mk (show V4.heap.size ≤ P5.heap.size from hb.size)
              have HL5 := Aside0.mk (HM4.out.trans (hb.mono HM4.out.size))
              have n_ := Aside0.mk (Kd.S_below HS0.out hb)
              clear HS0
              have HS0 := n_
              clear n_
              have n_ := Aside0.mk (blk_below BX0.out hb)
              clear BX0
              have BX0 := n_
              clear n_
              have n_ := Aside0.mk (Kd.S_below HS1.out hb)
              clear HS1
              have HS1 := n_
              clear n_
              have n_ := Aside0.mk (Kd.R_below HY.out hb)
              clear HY
              have HY := n_
              clear n_
              have n_ := Aside0.mk (blk_below BX1.out hb)
              clear BX1
              have BX1 := n_
              clear n_
              have n_ := Aside0.mk (blk_below BY.out hb)
              clear BY
              have BY := n_
              clear n_
              have n_ := Aside0.mk (Kd.S_below HS2.out hb)
              clear HS2
              have HS2 := n_
              clear n_
              have n_ := Aside0.mk (blk_below BX2.out hb)
              clear BX2
              have BX2 := n_
              clear n_
              have n_ := Aside0.mk (Kd.S_below HS3.out hb)
              clear HS3
              have HS3 := n_
              clear n_
              have n_ := Aside0.mk (blk_below BX3.out hb)
              clear BX3
              have BX3 := n_
              clear n_
              have n_ := Aside0.mk (Kd.S_below HS4.out hb)
              clear HS4
              have HS4 := n_
              clear n_
              rw [hP]
              clear hP hb HM4
              have hx0_0 : P5.cell? ⟨V0.heap.size, 0, none⟩ = some (.slice Ag0 t222.length cg0) := (blk_cell BX0.out 0).trans rfl
              have hx0_1 : P5.cell? ⟨V0.heap.size, 1, none⟩ = some (.int .i64 t225) := (blk_cell BX0.out 1).trans rfl
              have hx1_0 : P5.cell? ⟨V1.heap.size, 0, none⟩ = some (.slice Ag1 t227.length cg1) := (blk_cell BX1.out 0).trans rfl
              have hx1_1 : P5.cell? ⟨V1.heap.size, 1, none⟩ = some (.int .i64 t230) := (blk_cell BX1.out 1).trans rfl
              have hx2_0 : P5.cell? ⟨V2.heap.size, 0, none⟩ = some (.slice Ag2 t239.length cg2) := (blk_cell BX2.out 0).trans rfl
              have hx2_1 : P5.cell? ⟨V2.heap.size, 1, none⟩ = some (.int .i64 t242) := (blk_cell BX2.out 1).trans rfl
              have hx3_0 : P5.cell? ⟨V3.heap.size, 0, none⟩ = some (.slice Ag3 t245.length cg3) := (blk_cell BX3.out 0).trans rfl
              have hx3_1 : P5.cell? ⟨V3.heap.size, 1, none⟩ = some (.int .i64 t248) := (blk_cell BX3.out 1).trans rfl
              have hx4_0 : P5.cell? ⟨V4.heap.size, 0, none⟩ = some (.slice Ag4 t251.length cg4) := (blk_cell BX4.out 0).trans rfl
              have hx4_1 : P5.cell? ⟨V4.heap.size, 1, none⟩ = some (.int .i64 t254) := (blk_cell BX4.out 1).trans rfl
              have hx5_0 : P5.cell? ⟨gb203, 0, none⟩ = some (.slice A0_0 l0_0.length c0_0) := (blk_cell (blk_below BK203.out HL5.out) 0).trans rfl
              have hx5_1 : P5.cell? ⟨gb203, 1, none⟩ = some (.int .i64 a0_1) := (blk_cell (blk_below BK203.out HL5.out) 1).trans rfl
              refine start_ (n := 10) (S := fun w' => w'.cell? ⟨V0.heap.size, 0, none⟩ = some (.slice Ag0 t222.length cg0) ∧ w'.cell? ⟨V0.heap.size, 1, none⟩ = some (.int .i64 t225) ∧ w'.cell? ⟨V1.heap.size, 0, none⟩ = some (.slice Ag1 t227.length cg1) ∧ w'.cell? ⟨V1.heap.size, 1, none⟩ = some (.int .i64 t230) ∧ w'.cell? ⟨V2.heap.size, 0, none⟩ = some (.slice Ag2 t239.length cg2) ∧ w'.cell? ⟨V2.heap.size, 1, none⟩ = some (.int .i64 t242) ∧ w'.cell? ⟨V3.heap.size, 0, none⟩ = some (.slice Ag3 t245.length cg3) ∧ w'.cell? ⟨V3.heap.size, 1, none⟩ = some (.int .i64 t248) ∧ w'.cell? ⟨V4.heap.size, 0, none⟩ = some (.slice Ag4 t251.length cg4) ∧ w'.cell? ⟨V4.heap.size, 1, none⟩ = some (.int .i64 t254) ∧ w'.cell? ⟨gb203, 0, none⟩ = some (.slice A0_0 l0_0.length c0_0) ∧ w'.cell? ⟨gb203, 1, none⟩ = some (.int .i64 a0_1)) (ds := [7]) #[false, false, false, false, false, false, false, false, false, false] (by kernel_rfl) rfl rfl ⟨hx0_0, hx0_1, hx1_0, hx1_1, hx2_0, hx2_1, hx3_0, hx3_1, hx4_0, hx4_1, hx5_0, hx5_1⟩ (fun hHeld => ?_)
              obtain ⟨Pd, hPd⟩ : ∃ W, P5.drew = W := ⟨_, rfl⟩
              have hb : Below P5.heap.size P5 Pd := by rw [← hPd]; exact below_drew (Below.refl _ _)
              have LF4' := Aside0.mk (show V4.heap.size ≤ Pd.heap.size from Nat.le_trans LF4.out hb.size)
              have HLd := Aside0.mk (HL5.out.trans (hb.mono HL5.out.size))
              have n_ := Aside0.mk (Kd.S_below HS0.out hb)
              clear HS0
              have HS0 := n_
              clear n_
              have n_ := Aside0.mk (Kd.S_below HS1.out hb)
              clear HS1
              have HS1 := n_
              clear n_
              have n_ := Aside0.mk (Kd.S_below HS2.out hb)
              clear HS2
              have HS2 := n_
              clear n_
              have n_ := Aside0.mk (Kd.S_below HS3.out hb)
              clear HS3
              have HS3 := n_
              clear n_
              have n_ := Aside0.mk (Kd.S_below HS4.out hb)
              clear HS4
              have HS4 := n_
              clear n_
              have n_ := Aside0.mk (Kd.R_below HY.out hb)
              clear HY
              have HY := n_
              clear n_
              have n_ := Aside0.mk (blk_below BY.out hb)
              clear BY
              have BY := n_
              clear n_
              rw [hPd] at hHeld ⊢
              clear hPd hb HL5 hx0_0 hx0_1 hx1_0 hx1_1 hx2_0 hx2_1 hx3_0 hx3_1 hx4_0 hx4_1 hx5_0 hx5_1 BX0 BX1 BX2 BX3 BX4
              refine pure_ (i := 9) (N := some 91) (v := ?_) (a' := ?_) #[false, false, false, false, false, false, false, false, false, true] rfl rfl (by kernel_rfl) (fun _ _ _ h => h) (Or.inl ⟨by rfl, ?_⟩) ?_ ?_
              rotate_left
              · intro w'
                go_simp
                with_reducible rfl
              rotate_left
              · simp only [Act.put, List.setIfInBounds_toArray, List.set_cons_zero, List.set_cons_succ, i64_w, i32_w]
                rfl
              refine take_ (i := 0) (N := some 82) (v := ?_) (a' := ?_) #[true, false, false, false, false, false, false, false, false, true] rfl rfl (by kernel_rfl) (fun _ _ _ h => h) (Or.inl ⟨by rfl, ?_⟩) hHeld ?_ ?_
              rotate_left
              · rintro w' ⟨s0, s1, s2, s3, s4, s5, s6, s7, s8, s9, s10, s11⟩
                go_simp
                with_reducible rfl
              rotate_left
              · simp only [Act.put, List.setIfInBounds_toArray, List.set_cons_zero, List.set_cons_succ, i64_w, i32_w]
                rfl
              refine take_ (i := 1) (N := some 83) (v := ?_) (a' := ?_) #[true, true, false, false, false, false, false, false, false, true] rfl rfl (by kernel_rfl) (fun _ _ _ h => h) (Or.inl ⟨by rfl, ?_⟩) hHeld ?_ ?_
              rotate_left
              · rintro w' ⟨s0, s1, s2, s3, s4, s5, s6, s7, s8, s9, s10, s11⟩
                go_simp
                with_reducible rfl
              rotate_left
              · simp only [Act.put, List.setIfInBounds_toArray, List.set_cons_zero, List.set_cons_succ, i64_w, i32_w]
                rfl
              refine take_ (i := 2) (N := some 84) (v := ?_) (a' := ?_) #[true, true, true, false, false, false, false, false, false, true] rfl rfl (by kernel_rfl) (fun _ _ _ h => h) (Or.inl ⟨by rfl, ?_⟩) hHeld ?_ ?_
              rotate_left
              · rintro w' ⟨s0, s1, s2, s3, s4, s5, s6, s7, s8, s9, s10, s11⟩
                go_simp
                with_reducible rfl
              rotate_left
              · simp only [Act.put, List.setIfInBounds_toArray, List.set_cons_zero, List.set_cons_succ, i64_w, i32_w]
                rfl
              refine take_ (i := 3) (N := some 85) (v := ?_) (a' := ?_) #[true, true, true, true, false, false, false, false, false, true] rfl rfl (by kernel_rfl) (fun _ _ _ h => h) (Or.inl ⟨by rfl, ?_⟩) hHeld ?_ ?_
              rotate_left
              · rintro w' ⟨s0, s1, s2, s3, s4, s5, s6, s7, s8, s9, s10, s11⟩
                go_simp
                with_reducible rfl
              rotate_left
              · simp only [Act.put, List.setIfInBounds_toArray, List.set_cons_zero, List.set_cons_succ, i64_w, i32_w]
                rfl
              refine take_ (i := 4) (N := some 86) (v := ?_) (a' := ?_) #[true, true, true, true, true, false, false, false, false, true] rfl rfl (by kernel_rfl) (fun _ _ _ h => h) (Or.inl ⟨by rfl, ?_⟩) hHeld ?_ ?_
              rotate_left
              · rintro w' ⟨s0, s1, s2, s3, s4, s5, s6, s7, s8, s9, s10, s11⟩
                go_simp
                with_reducible rfl
              rotate_left
              · simp only [Act.put, List.setIfInBounds_toArray, List.set_cons_zero, List.set_cons_succ, i64_w, i32_w]
                rfl
              refine take_ (i := 5) (N := some 87) (v := ?_) (a' := ?_) #[true, true, true, true, true, true, false, false, false, true] rfl rfl (by kernel_rfl) (fun _ _ _ h => h) (Or.inl ⟨by rfl, ?_⟩) hHeld ?_ ?_
              rotate_left
              · rintro w' ⟨s0, s1, s2, s3, s4, s5, s6, s7, s8, s9, s10, s11⟩
                go_simp
                with_reducible rfl
              rotate_left
              · simp only [Act.put, List.setIfInBounds_toArray, List.set_cons_zero, List.set_cons_succ, i64_w, i32_w]
                rfl
              refine one_ (i := 6) (N := some 88) #[true, true, true, true, true, true, true, false, false, true] rfl rfl (by kernel_rfl) (by decide) (fun K hK => ?_)
              refine goes_ Try.func16 (by kernel_rfl) rfl #[.agg #[.slice A0_0 l0_0.length c0_0, .int .i64 a0_1]] (by rfl) rfl rfl (by (try simp only [List.map_toArray, List.map_cons, List.map_nil]); first | done | rfl) ?_
              refine (bag_Own.calls A0_0 c0_0 l0_0 a0_1 t257 t260 _ (Kd.C_below HR0_0.out (HBw.out.trans (HLd.out.mono HBw.out.size))) HC0_0.out A30.out).mono ?_
              rintro e V5 ⟨v0_, rfl, hS, hb⟩
              obtain ⟨Ag5, cg5, rfl⟩ := Kd.S_slice hS
              have HC0 := (hb.cell (World.block_lt_of_cell? _ _ (hHeld.1))).trans (hHeld.1)
              have HC1 := (hb.cell (World.block_lt_of_cell? _ _ (hHeld.2.1))).trans (hHeld.2.1)
              have HC2 := (hb.cell (World.block_lt_of_cell? _ _ (hHeld.2.2.1))).trans (hHeld.2.2.1)
              have HC3 := (hb.cell (World.block_lt_of_cell? _ _ (hHeld.2.2.2.1))).trans (hHeld.2.2.2.1)
              have HC4 := (hb.cell (World.block_lt_of_cell? _ _ (hHeld.2.2.2.2.1))).trans (hHeld.2.2.2.2.1)
              have HC5 := (hb.cell (World.block_lt_of_cell? _ _ (hHeld.2.2.2.2.2.1))).trans (hHeld.2.2.2.2.2.1)
              have HC6 := (hb.cell (World.block_lt_of_cell? _ _ (hHeld.2.2.2.2.2.2.1))).trans (hHeld.2.2.2.2.2.2.1)
              have HC7 := (hb.cell (World.block_lt_of_cell? _ _ (hHeld.2.2.2.2.2.2.2.1))).trans (hHeld.2.2.2.2.2.2.2.1)
              have HC8 := (hb.cell (World.block_lt_of_cell? _ _ (hHeld.2.2.2.2.2.2.2.2.1))).trans (hHeld.2.2.2.2.2.2.2.2.1)
              have HC9 := (hb.cell (World.block_lt_of_cell? _ _ (hHeld.2.2.2.2.2.2.2.2.2.1))).trans (hHeld.2.2.2.2.2.2.2.2.2.1)
              have HC10 := (hb.cell (World.block_lt_of_cell? _ _ (hHeld.2.2.2.2.2.2.2.2.2.2.1))).trans (hHeld.2.2.2.2.2.2.2.2.2.2.1)
              have HC11 := (hb.cell (World.block_lt_of_cell? _ _ (hHeld.2.2.2.2.2.2.2.2.2.2.2))).trans (hHeld.2.2.2.2.2.2.2.2.2.2.2)
              refine ⟨_, rfl, ?_⟩
              have HS5 := Aside0.mk (Kd.S_lower (Kd.S_mono (ok' := fun q => Pd.heap.size ≤ q ∧ q < V5.heap.size) (Kd.S_bound hS) (fun k_ hk_ => ⟨hk_.2.1, hk_.2.2.1⟩)) HLd.out.size)
              have LE5 := Aside0.mk (show Pd.heap.size ≤ V5.heap.size from hb.size)
              have HM5 := Aside0.mk (HLd.out.trans (hb.mono HLd.out.size))
              have n_ := Aside0.mk (Kd.S_below HS0.out hb)
              clear HS0
              have HS0 := n_
              clear n_
              have n_ := Aside0.mk (Kd.S_below HS1.out hb)
              clear HS1
              have HS1 := n_
              clear n_
              have n_ := Aside0.mk (Kd.S_below HS2.out hb)
              clear HS2
              have HS2 := n_
              clear n_
              have n_ := Aside0.mk (Kd.S_below HS3.out hb)
              clear HS3
              have HS3 := n_
              clear n_
              have n_ := Aside0.mk (Kd.S_below HS4.out hb)
              clear HS4
              have HS4 := n_
              clear n_
              have n_ := Aside0.mk (Kd.R_below HY.out hb)
              clear HY
              have HY := n_
              clear n_
              have n_ := Aside0.mk (blk_below BY.out hb)
              clear BY
              have BY := n_
              clear n_
              refine hK.out _ _ ⟨HC0, HC1, HC2, HC3, HC4, HC5, HC6, HC7, HC8, HC9, HC10, HC11⟩ (fun hHeld => ?_)
              clear hK K
              refine norm_ (a' := ?_) ?_ ?_
              rotate_left
              · show Act.put _ (some 88) _ = _
                simp only [Act.put, List.setIfInBounds_toArray, List.set_cons_zero, List.set_cons_succ, i64_w, i32_w]
                rfl
              refine last_ (i := 7) (N := some 89) #[true, true, true, true, true, true, true, true, false, true] rfl rfl (by kernel_rfl) (by decide) (fun K hK => ?_)
              refine value_ (w1 := ?_) (v := ?_) (by rfl) rfl ?_ ?_
              rotate_left 2
              · go_simp
                constructor
                · rfl
                · rfl
              refine hK.out _ _ ?_
              clear hK K
              refine norm_ (a' := ?_) ?_ ?_
              rotate_left
              · show Act.put _ (some 89) _ = _
                simp only [Act.put, List.setIfInBounds_toArray, List.set_cons_zero, List.set_cons_succ, i64_w, i32_w]
                rfl
              refine pure_ (i := 8) (N := some 90) (v := ?_) (a' := ?_) #[true, true, true, true, true, true, true, true, true, true] rfl rfl (by kernel_rfl) (fun _ _ _ h => h) (Or.inl ⟨by rfl, ?_⟩) ?_ ?_
              rotate_left
              · intro w'
                go_simp
                with_reducible rfl
              rotate_left
              · simp only [Act.put, List.setIfInBounds_toArray, List.set_cons_zero, List.set_cons_succ, i64_w, i32_w]
                rfl
              refine done_ (by kernel_rfl) ?_
              go_upto_block 0 with (fail)
              obtain ⟨ga, hga⟩ : ∃ b, V5.heap.size = b := ⟨_, rfl⟩
              obtain ⟨Z, hZ⟩ : ∃ W, V5.alloc (.cells #[.slice Ag0 t222.length cg0, .int .i64 t225, .slice Ag1 t227.length cg1, .int .i64 t230, .slice Ag2 t239.length cg2, .int .i64 t242, .slice Ag3 t245.length cg3, .int .i64 t248, .slice Ag4 t251.length cg4, .int .i64 t254, .slice Ag5 t257.length cg5, .int .i64 t260] 28) = W := ⟨_, rfl⟩
              have hb : Below V5.heap.size V5 Z := by rw [← hZ]; exact below_alloc (Below.refl _ _) _
              have hA : Z.heap[ga]? = some (.cells #[.slice Ag0 t222.length cg0, .int .i64 t225, .slice Ag1 t227.length cg1, .int .i64 t230, .slice Ag2 t239.length cg2, .int .i64 t242, .slice Ag3 t245.length cg3, .int .i64 t248, .slice Ag4 t251.length cg4, .int .i64 t254, .slice Ag5 t257.length cg5, .int .i64 t260] 28 (0, 0)) := by rw [← hZ, ← hga]; exact World.alloc_heap_new V5 _
              have HYI := Aside0.mk HY.out.1
              have HYZ := Aside0.mk (Kd.R_tight rfl (Kd.R_below HY.out hb))
              have BYZ := Aside0.mk (blk_below BY.out hb)
              have HLz : Below w56.heap.size w56 Z := HM5.out.trans (hb.mono HM5.out.size)
              have hgz : ga < Z.heap.size := (Array.getElem?_eq_some_iff.mp hA).1
              have hc := (show w56.heap.size ≤ P0.heap.size from HL00.out)
              have hl0 := LE0.out
              have hl1 := LE1.out
              have hl2 := LE2.out
              have hl3 := LE3.out
              have hl4 := LE4.out
              have hl5 := LE5.out
              have hm0 := LF0.out
              have hm1 := LF1.out
              have hm2 := LF2.out
              have hm3 := LF3.out
              have hm4 := LF4'.out
              have hy1 := LY.out
              obtain ⟨Af, hAf⟩ : ∃ f, sel6 Ag0 Ag1 Ag2 Ag3 Ag4 Ag5 = f := ⟨_, rfl⟩
              obtain ⟨nf, hnf⟩ : ∃ f, sel6 t222.length t227.length t239.length t245.length t251.length t257.length = f := ⟨_, rfl⟩
              obtain ⟨cf, hcf⟩ : ∃ f, sel6 cg0 cg1 cg2 cg3 cg4 cg5 = f := ⟨_, rfl⟩
              obtain ⟨kf, hkf⟩ : ∃ f, sel6 t225 t230 t242 t248 t254 t260 = f := ⟨_, rfl⟩
              obtain ⟨ok, hok⟩ : ∃ f : Nat → Nat → Prop, sel6 (fun q => P0.heap.size ≤ q ∧ q < V0.heap.size) (fun q => (P1.heap.size ≤ q ∧ q < V1.heap.size) ∧ some q ≠ (Value.slice Ay t232.length cy).ownBlock) (fun q => P2.heap.size ≤ q ∧ q < V2.heap.size) (fun q => P3.heap.size ≤ q ∧ q < V3.heap.size) (fun q => P4.heap.size ≤ q ∧ q < V4.heap.size) (fun q => Pd.heap.size ≤ q ∧ q < V5.heap.size) = f := ⟨_, rfl⟩
              have HAP : Aside0 (Apart w56 Z ok) := ⟨by rw [← hok]; exact apart6 hc hl0 hm0 hl1 hm1 hl2 hm2 hl3 hm3 hl4 hm4 hl5 (Nat.le_of_lt (by rw [hga]; exact hgz))⟩
              have HBG : Aside0 (Bags w56 Z Af nf cf ok Z) := ⟨⟨HLz, Nat.le_refl _, fun _ _ _ => rfl, by
                rw [← hAf, ← hnf, ← hcf, ← hok]
                exact six ⟨t222, rfl, Kd.S_below HS0.out hb⟩ ⟨t227, rfl, Kd.S_below HS1.out hb⟩ ⟨t239, rfl, Kd.S_below HS2.out hb⟩ ⟨t245, rfl, Kd.S_below HS3.out hb⟩ ⟨t251, rfl, Kd.S_below HS4.out hb⟩ ⟨t257, rfl, Kd.S_below HS5.out hb⟩⟩⟩
              have HCE : Aside0 (∀ m, m < 6 → Z.cell? ⟨ga, m * 2, none⟩ = some (.slice (Af m) (nf m) (cf m)) ∧ Z.cell? ⟨ga, m * 2 + 1, none⟩ = some (.int .i64 (kf m))) := ⟨by
                rw [← hAf, ← hnf, ← hcf, ← hkf]
                exact six ⟨(blk_cell hA 0).trans rfl, (blk_cell hA 1).trans rfl⟩ ⟨(blk_cell hA 2).trans rfl, (blk_cell hA 3).trans rfl⟩ ⟨(blk_cell hA 4).trans rfl, (blk_cell hA 5).trans rfl⟩ ⟨(blk_cell hA 6).trans rfl, (blk_cell hA 7).trans rfl⟩ ⟨(blk_cell hA 8).trans rfl, (blk_cell hA 9).trans rfl⟩ ⟨(blk_cell hA 10).trans rfl, (blk_cell hA 11).trans rfl⟩⟩
              have HNA : Aside0 (∀ m, m < 6 → ¬ ok m ga) := ⟨by
                rw [← hok, ← hga]
                exact six (fun h => by have := h.2; omega) (fun h => by have := h.1.2; omega) (fun h => by have := h.2; omega) (fun h => by have := h.2; omega) (fun h => by have := h.2; omega) (fun h => by have := h.2; omega)⟩
              have HNY : Aside0 (∀ m, m < 6 → ¬ ok m (V1.heap.size + 1)) := ⟨by
                rw [← hok]
                exact six (fun h => by have := h.2; omega) (fun h => by have := h.1.2; omega) (fun h => by have := h.1; omega) (fun h => by have := h.1; omega) (fun h => by have := h.1; omega) (fun h => by have := h.1; omega)⟩
              have HNB : Aside0 (∀ q, (Value.slice Ay t232.length cy).ownBlock = some q → q < V1.heap.size ∧ ∀ m, m < 6 → ¬ ok m q) := ⟨fun q hq => by
                have hi := HYI.out q hq
                refine ⟨hi.2, ?_⟩
                rw [← hok]
                exact six (fun h => by have := h.2; have := hi.1; omega) (fun h => h.2 hq.symm) (fun h => by have := h.1; have := hi.2; omega) (fun h => by have := h.1; have := hi.2; omega) (fun h => by have := h.1; have := hi.2; omega) (fun h => by have := h.1; have := hi.2; omega)⟩
              have HGZ := Aside0.mk hgz
              have HYL : Aside0 (V1.heap.size + 1 < Z.heap.size) := ⟨by omega⟩
              rw [hZ, hga]
              clear hZ hga hb hA HLz hgz hc hl0 hl1 hl2 hl3 hl4 hl5 hm0 hm1 hm2 hm3 hm4 hy1 hAf hnf hcf hkf hok HS0 HS1 HS2 HS3 HS4 HS5 HY BY HM5 HYI LE0 LE1 LE2 LE3 LE4 LE5 LF0 LF1 LF2 LF3 LF4 LF4' LY HL00
              go_wp2
              go_loopg [91] 6 (fun kq v91 wr => ∃ m : Nat, v91 = .int .i64 (m : Int) ∧ m + kq = 6 ∧ Aside0 (Bags w56 Z Af nf cf ok wr))
              case atStart => exact ⟨0, rfl, rfl, HBG⟩
              case round =>
                obtain ⟨m, rfl, hmk, HBr⟩ := hrel
                by_cases hm : m < 6
                · have hm1 : decide ((m : Int) < 6) = true := decide_eq_true (by omega)
                  have hm2 : decide (m < 6) = true := decide_eq_true hm
                  obtain ⟨hc0, hc1⟩ := HCE.out m hm
                  have hkeep : wr.heap[ga]? = Z.heap[ga]? := HBr.out.keep ga HGZ.out (fun m' h' => HNA.out m' h')
                  have hx0 : wr.cell? ⟨ga, m * 2, none⟩ = some (.slice (Af m) (nf m) (cf m)) := by rw [← hc0]; simp only [World.cell?, hkeep]
                  have hx1 : wr.cell? ⟨ga, m * 2 + 1, none⟩ = some (.int .i64 (kf m)) := by rw [← hc1]; simp only [World.cell?, hkeep]
                  have hmi0 : (0 : Int) ≤ (m : Int) := by omega
                  have hmi1 : (m : Int) < 6 := by omega
                  have HMI := Aside0.mk hm
                  clear hc0 hc1 hkeep hm
                  go_upto_block 2 with (fail)
                  obtain ⟨g22, hg22⟩ : ∃ b, wr.heap.size = b := ⟨_, rfl⟩
                  obtain ⟨W1, hW1⟩ : ∃ W, wr.alloc (.cells #[.slice (Af m) (nf m) (cf m), .int .i64 (kf m)] 28) = W := ⟨_, rfl⟩
                  have hb : Below wr.heap.size wr W1 := by rw [← hW1]; exact below_alloc (Below.refl _ _) _
                  have HK22 := Aside0.mk (show W1.heap[g22]? = some (.cells #[.slice (Af m) (nf m) (cf m), .int .i64 (kf m)] 28 (0, 0)) by rw [← hW1, ← hg22]; exact World.alloc_heap_new wr _)
                  have HB1 := Aside0.mk (HBr.out.step hb)
                  have HG22 := Aside0.mk (show Z.heap.size ≤ g22 by rw [← hg22]; exact HBr.out.size)
                  rw [hW1, hg22]
                  clear hW1 hg22 hb HBr hx0 hx1
                  go_wp2
                  go_loopg [23] (nf m) (fun kq v23 wk => ∃ k' : Nat, v23 = .int .i64 (k' : Int) ∧ k' + kq = nf m ∧ Aside0 (Bags w56 Z Af nf cf ok wk) ∧ Aside0 (wk.heap[g22]? = some (.cells #[.slice (Af m) (nf m) (cf m), .int .i64 (kf m)] 28 (0, 0))))
                  case atStart => exact ⟨0, rfl, by omega, HB1, HK22⟩
                  case round =>
                    obtain ⟨k', rfl, hkk, HBk, HK2⟩ := hrel
                    have hy0 : wr.cell? ⟨g22, 0, none⟩ = some (.slice (Af m) (nf m) (cf m)) := (blk_cell HK2.out 0).trans rfl
                    have hmx := HBk.out.max HMI.out
                    by_cases hkl : k' < nf m
                    · obtain ⟨g, hAg, hog, ⟨v, hx⟩, hf, hput⟩ := Bags.to HAP.out HBk.out HMI.out hkl
                      have hy0' : wr.cell? ⟨g22, 0, none⟩ = some (.slice (some ⟨g, 0, none⟩) (nf m) (cf m)) := by rw [← hAg]; exact hy0
                      have HKI := Aside0.mk hkl
                      have hk0 : (0 : Int) ≤ (k' : Int) := by omega
                      have hk1 : (k' : Int) < (nf m : Int) := by omega
                      have hd1 : decide ((k' : Int) < (nf m : Int)) = true := decide_eq_true hk1
                      have hd2 : decide (k' < nf m) = true := decide_eq_true hkl
                      have HPT := Aside0.mk (hput (-9))
                      have HNG := Aside0.mk (show g22 ≠ g by have h1 := (HAP.out.old m g HMI.out hog).2; have h2 := HG22.out; omega)
                      clear hput hkl hy0 hog
                      go_upto_block 4 with (fail)
                      obtain ⟨W2, hW2⟩ : ∃ W, wr.setCell ⟨g, k' * 3, none⟩ (.int .i64 (-9)) = W := ⟨_, rfl⟩
                      have HB2 := Aside0.mk (show Bags w56 Z Af nf cf ok W2 by rw [← hW2]; exact HPT.out)
                      have HK22' := Aside0.mk (show W2.heap[g22]? = some (.cells #[.slice (Af m) (nf m) (cf m), .int .i64 (kf m)] 28 (0, 0)) by rw [← hW2]; exact blk_far HK2.out (p := ⟨g, k' * 3, none⟩) HNG.out _)
                      rw [hW2]
                      clear hW2 hx hf hy0' HPT HBk HK2
                      obtain ⟨B, L, cb, hbc, hLm⟩ := Bags.bytes HB2.out HMI.out HKI.out hAg
                      have HBC := Aside0.mk hbc
                      clear hbc
                      go_wp2
                      go_loopg [24] L (fun jq v24 wj => ∃ j : Nat, v24 = .int .i64 (j : Int) ∧ j + jq = L ∧ Aside0 (Bags w56 Z Af nf cf ok wj) ∧ Aside0 (wj.heap[g22]? = some (.cells #[.slice (Af m) (nf m) (cf m), .int .i64 (kf m)] 28 (0, 0))) ∧ Aside0 (wj.cell? ⟨g, k' * 3 + 1, none⟩ = some (.slice B L cb)))
                      case atStart => exact ⟨0, rfl, by omega, HB2, HK22', HBC⟩
                      case round =>
                        obtain ⟨j, rfl, hjj, HBj, HK2j, HBCj⟩ := hrel
                        have hy0 : wr.cell? ⟨g22, 0, none⟩ = some (.slice (some ⟨g, 0, none⟩) (nf m) (cf m)) := by rw [← hAg]; exact (blk_cell HK2j.out 0).trans rfl
                        have hb1 := HBCj.out
                        by_cases hjl : j < L
                        · obtain ⟨bb, v, eB, hne, hokb, hxb, hfb, _⟩ := Bags.byte HAP.out HBj.out HMI.out HKI.out hAg hb1 hjl
                          subst eB
                          have hj0 : (0 : Int) ≤ (j : Int) := by omega
                          have hj1 : (j : Int) < (L : Int) := by omega
                          have hd3 : decide ((j : Int) < (L : Int)) = true := decide_eq_true hj1
                          have hd4 : decide (j < L) = true := decide_eq_true hjl
                          have HNBB := Aside0.mk hne
                          have HN22 := Aside0.mk (show g22 ≠ bb by have h1 := (HAP.out.old m bb HMI.out hokb).2; have h2 := HG22.out; omega)
                          clear hne hokb hfb
                          go_upto_region 20 with (fail)
                          refine start_ (n := 19) (S := fun w' => w'.cell? ⟨g22, 0, none⟩ = some (.slice (some ⟨g, 0, none⟩) (nf m) (cf m)) ∧ w'.cell? ⟨g, k' * 3 + 1, none⟩ = some (.slice (some ⟨bb, 0, none⟩) L cb) ∧ w'.cell? ⟨bb, j, none⟩ = some (.int .u8 v)) (ds := [18]) #[false, false, false, false, false, false, false, false, false, false, false, false, false, false, false, false, false, false, false] (by kernel_rfl) rfl rfl ⟨hy0, hb1, hxb⟩ (fun hHeld => ?_)
                          obtain ⟨Wd, hWd⟩ : ∃ W, wr.drew = W := ⟨_, rfl⟩
                          have hbd : Below wr.heap.size wr Wd := by rw [← hWd]; exact below_drew (Below.refl _ _)
                          have HBd := Aside0.mk (HBj.out.step hbd)
                          have HK2d := Aside0.mk (blk_below HK2j.out hbd)
                          have hyd : Wd.cell? ⟨g22, 0, none⟩ = some (.slice (some ⟨g, 0, none⟩) (nf m) (cf m)) := (hbd.cell (World.block_lt_of_cell? _ _ hy0)).trans hy0
                          have hbdd : Wd.cell? ⟨g, k' * 3 + 1, none⟩ = some (.slice (some ⟨bb, 0, none⟩) L cb) := (hbd.cell (World.block_lt_of_cell? _ _ hb1)).trans hb1
                          have hxd : Wd.cell? ⟨bb, j, none⟩ = some (.int .u8 v) := (hbd.cell (World.block_lt_of_cell? _ _ hxb)).trans hxb
                          obtain ⟨bb', v', e', _, _, _, hfd, hput⟩ := Bags.byte HAP.out HBd.out HMI.out HKI.out hAg hbdd hjl
                          cases e'
                          have HPUT := Aside0.mk hput
                          have HBDD := Aside0.mk hbdd
                          rw [hWd] at hHeld ⊢
                          clear hWd hbd hbdd hput hy0 hb1 hxb HBj HK2j HBCj
                          refine pure_ (i := 0) (N := some 118) (v := ?_) (a' := ?_) #[true, false, false, false, false, false, false, false, false, false, false, false, false, false, false, false, false, false, false] rfl rfl (by kernel_rfl) (fun _ _ _ h => h) (Or.inl ⟨by rfl, ?_⟩) ?_ ?_
                          rotate_left
                          · intro w'
                            go_simp
                            with_reducible rfl
                          rotate_left
                          · simp only [Act.put, List.setIfInBounds_toArray, List.set_cons_zero, List.set_cons_succ, i64_w, i32_w]
                            rfl
                          refine pure_ (i := 2) (N := some 120) (v := ?_) (a' := ?_) #[true, false, true, false, false, false, false, false, false, false, false, false, false, false, false, false, false, false, false] rfl rfl (by kernel_rfl) (fun _ _ _ h => h) (Or.inl ⟨by rfl, ?_⟩) ?_ ?_
                          rotate_left
                          · intro w'
                            go_simp
                            with_reducible rfl
                          rotate_left
                          · simp only [Act.put, List.setIfInBounds_toArray, List.set_cons_zero, List.set_cons_succ, i64_w, i32_w]
                            rfl
                          refine pure_ (i := 6) (N := some 124) (v := ?_) (a' := ?_) #[true, false, true, false, false, false, true, false, false, false, false, false, false, false, false, false, false, false, false] rfl rfl (by kernel_rfl) (fun _ _ _ h => h) (Or.inl ⟨by rfl, ?_⟩) ?_ ?_
                          rotate_left
                          · intro w'
                            go_simp
                            with_reducible rfl
                          rotate_left
                          · simp only [Act.put, List.setIfInBounds_toArray, List.set_cons_zero, List.set_cons_succ, i64_w, i32_w]
                            rfl
                          refine pure_ (i := 7) (N := some 125) (v := ?_) (a' := ?_) #[true, false, true, false, false, false, true, true, false, false, false, false, false, false, false, false, false, false, false] rfl rfl (by kernel_rfl) (fun _ _ _ h => h) (Or.inl ⟨by rfl, ?_⟩) ?_ ?_
                          rotate_left
                          · intro w'
                            go_simp
                            with_reducible rfl
                          rotate_left
                          · simp only [Act.put, List.setIfInBounds_toArray, List.set_cons_zero, List.set_cons_succ, i64_w, i32_w]
                            rfl
                          refine pure_ (i := 9) (N := some 127) (v := ?_) (a' := ?_) #[true, false, true, false, false, false, true, true, false, true, false, false, false, false, false, false, false, false, false] rfl rfl (by kernel_rfl) (fun _ _ _ h => h) (Or.inl ⟨by rfl, ?_⟩) ?_ ?_
                          rotate_left
                          · intro w'
                            go_simp
                            with_reducible rfl
                          rotate_left
                          · simp only [Act.put, List.setIfInBounds_toArray, List.set_cons_zero, List.set_cons_succ, i64_w, i32_w]
                            rfl
                          refine pure_ (i := 13) (N := some 131) (v := ?_) (a' := ?_) #[true, false, true, false, false, false, true, true, false, true, false, false, false, true, false, false, false, false, false] rfl rfl (by kernel_rfl) (fun _ _ _ h => h) (Or.inl ⟨by rfl, ?_⟩) ?_ ?_
                          rotate_left
                          · intro w'
                            go_simp
                            with_reducible rfl
                          rotate_left
                          · simp only [Act.put, List.setIfInBounds_toArray, List.set_cons_zero, List.set_cons_succ, i64_w, i32_w]
                            rfl
                          refine take_ (i := 1) (N := some 119) (v := ?_) (a' := ?_) #[true, true, true, false, false, false, true, true, false, true, false, false, false, true, false, false, false, false, false] rfl rfl (by kernel_rfl) (fun _ _ _ h => h) (Or.inl ⟨by rfl, ?_⟩) hHeld ?_ ?_
                          rotate_left
                          · rintro w' ⟨s0, s1, s2⟩
                            go_simp
                            with_reducible rfl
                          rotate_left
                          · simp only [Act.put, List.setIfInBounds_toArray, List.set_cons_zero, List.set_cons_succ, i64_w, i32_w]
                            rfl
                          refine pure_ (i := 3) (N := some 121) (v := ?_) (a' := ?_) #[true, true, true, true, false, false, true, true, false, true, false, false, false, true, false, false, false, false, false] rfl rfl (by kernel_rfl) (fun _ _ _ h => h) (Or.inl ⟨by rfl, ?_⟩) ?_ ?_
                          rotate_left
                          · intro w'
                            go_simp
                            with_reducible rfl
                          rotate_left
                          · simp only [Act.put, List.setIfInBounds_toArray, List.set_cons_zero, List.set_cons_succ, i64_w, i32_w]
                            rfl
                          refine pure_ (i := 4) (N := some 122) (v := ?_) (a' := ?_) #[true, true, true, true, true, false, true, true, false, true, false, false, false, true, false, false, false, false, false] rfl rfl (by kernel_rfl) (fun _ _ _ h => h) (Or.inl ⟨by rfl, ?_⟩) ?_ ?_
                          rotate_left
                          · intro w'
                            go_simp
                            with_reducible rfl
                          rotate_left
                          · simp only [Act.put, List.setIfInBounds_toArray, List.set_cons_zero, List.set_cons_succ, i64_w, i32_w]
                            rfl
                          refine take_ (i := 5) (N := some 123) (v := ?_) (a' := ?_) #[true, true, true, true, true, true, true, true, false, true, false, false, false, true, false, false, false, false, false] rfl rfl (by kernel_rfl) (fun _ _ _ h => h) (Or.inl ⟨by rfl, ?_⟩) hHeld ?_ ?_
                          rotate_left
                          · rintro w' ⟨s0, s1, s2⟩
                            go_simp
                            with_reducible rfl
                          rotate_left
                          · simp only [Act.put, List.setIfInBounds_toArray, List.set_cons_zero, List.set_cons_succ, i64_w, i32_w]
                            rfl
                          refine take_ (i := 8) (N := some 126) (v := ?_) (a' := ?_) #[true, true, true, true, true, true, true, true, true, true, false, false, false, true, false, false, false, false, false] rfl rfl (by kernel_rfl) (fun _ _ _ h => h) (Or.inl ⟨by rfl, ?_⟩) hHeld ?_ ?_
                          rotate_left
                          · rintro w' ⟨s0, s1, s2⟩
                            go_simp
                            with_reducible rfl
                          rotate_left
                          · simp only [Act.put, List.setIfInBounds_toArray, List.set_cons_zero, List.set_cons_succ, i64_w, i32_w]
                            rfl
                          refine pure_ (i := 10) (N := some 128) (v := ?_) (a' := ?_) #[true, true, true, true, true, true, true, true, true, true, true, false, false, true, false, false, false, false, false] rfl rfl (by kernel_rfl) (fun _ _ _ h => h) (Or.inl ⟨by rfl, ?_⟩) ?_ ?_
                          rotate_left
                          · intro w'
                            go_simp
                            with_reducible rfl
                          rotate_left
                          · simp only [Act.put, List.setIfInBounds_toArray, List.set_cons_zero, List.set_cons_succ, i64_w, i32_w]
                            rfl
                          refine pure_ (i := 11) (N := some 129) (v := ?_) (a' := ?_) #[true, true, true, true, true, true, true, true, true, true, true, true, false, true, false, false, false, false, false] rfl rfl (by kernel_rfl) (fun _ _ _ h => h) (Or.inl ⟨by rfl, ?_⟩) ?_ ?_
                          rotate_left
                          · intro w'
                            go_simp
                            with_reducible rfl
                          rotate_left
                          · simp only [Act.put, List.setIfInBounds_toArray, List.set_cons_zero, List.set_cons_succ, i64_w, i32_w]
                            rfl
                          refine take_ (i := 12) (N := some 130) (v := ?_) (a' := ?_) #[true, true, true, true, true, true, true, true, true, true, true, true, true, true, false, false, false, false, false] rfl rfl (by kernel_rfl) (fun _ _ _ h => h) (Or.inl ⟨by rfl, ?_⟩) hHeld ?_ ?_
                          rotate_left
                          · rintro w' ⟨s0, s1, s2⟩
                            go_simp
                            with_reducible rfl
                          rotate_left
                          · simp only [Act.put, List.setIfInBounds_toArray, List.set_cons_zero, List.set_cons_succ, i64_w, i32_w]
                            rfl
                          refine pure_ (i := 14) (N := some 132) (v := ?_) (a' := ?_) #[true, true, true, true, true, true, true, true, true, true, true, true, true, true, true, false, false, false, false] rfl rfl (by kernel_rfl) (fun _ _ _ h => h) (Or.inl ⟨by rfl, ?_⟩) ?_ ?_
                          rotate_left
                          · intro w'
                            go_simp
                            with_reducible rfl
                          rotate_left
                          · simp only [Act.put, List.setIfInBounds_toArray, List.set_cons_zero, List.set_cons_succ, i64_w, i32_w]
                            rfl
                          refine take_ (i := 15) (N := some 133) (v := ?_) (a' := ?_) #[true, true, true, true, true, true, true, true, true, true, true, true, true, true, true, true, false, false, false] rfl rfl (by kernel_rfl) (fun _ _ _ h => h) (Or.inl ⟨by rfl, ?_⟩) hHeld ?_ ?_
                          rotate_left
                          · rintro w' ⟨s0, s1, s2⟩
                            go_simp
                            with_reducible rfl
                          rotate_left
                          · simp only [Act.put, List.setIfInBounds_toArray, List.set_cons_zero, List.set_cons_succ, i64_w, i32_w]
                            rfl
                          refine pure_ (i := 16) (N := some 134) (v := ?_) (a' := ?_) #[true, true, true, true, true, true, true, true, true, true, true, true, true, true, true, true, true, false, false] rfl rfl (by kernel_rfl) (fun _ _ _ h => h) (Or.inl ⟨by rfl, ?_⟩) ?_ ?_
                          rotate_left
                          · intro w'
                            go_simp
                            with_reducible rfl
                          rotate_left
                          · simp only [Act.put, List.setIfInBounds_toArray, List.set_cons_zero, List.set_cons_succ, i64_w, i32_w]
                            rfl
                          refine pure_ (i := 17) (N := some 135) (v := ?_) (a' := ?_) #[true, true, true, true, true, true, true, true, true, true, true, true, true, true, true, true, true, true, false] rfl rfl (by kernel_rfl) (fun _ _ _ h => h) (Or.inl ⟨by rfl, ?_⟩) ?_ ?_
                          rotate_left
                          · intro w'
                            go_simp
                            with_reducible rfl
                          rotate_left
                          · simp only [Act.put, List.setIfInBounds_toArray, List.set_cons_zero, List.set_cons_succ, i64_w, i32_w]
                            rfl
                          refine last_ (i := 18) (N := none) #[true, true, true, true, true, true, true, true, true, true, true, true, true, true, true, true, true, true, true] rfl rfl (by kernel_rfl) (by decide) (fun K hK => ?_)
                          refine skip_ (w1 := ?_) (by rfl) rfl ?_ ?_
                          rotate_left
                          · go_simp
                            rfl
                          refine hK.out _ _ ?_
                          clear hK K
                          refine done_ (by kernel_rfl) ?_
                          go_wp2
                          go_roundg (L - j - 1)
                          case measure => omega
                          case rel => exact ⟨j + 1, by simp, by omega, ⟨HPUT.out _⟩, ⟨blk_far HK2d.out (p := ⟨bb, j, none⟩) HN22.out _⟩, ⟨cell_set HBDD.out (Ne.symm HNBB.out)⟩⟩
                        · have hd3 : decide ((j : Int) < (L : Int)) = false := decide_eq_false (by omega)
                          have hd4 : decide (j < L) = false := decide_eq_false hjl
                          go_wp2
                          go_roundg (nf m - k' - 1)
                          case measure => omega
                          case rel => exact ⟨k' + 1, by simp, by omega, HBj, HK2j⟩
                    · have hd1 : decide ((k' : Int) < (nf m : Int)) = false := decide_eq_false (by omega)
                      have hd2 : decide (k' < nf m) = false := decide_eq_false hkl
                      go_wp2
                      go_roundg (6 - m - 1)
                      case measure => omega
                      case rel => exact ⟨m + 1, by simp, by omega, HBk⟩
                · have hm1 : decide ((m : Int) < 6) = false := decide_eq_false (by omega)
                  have hm2 : decide (m < 6) = false := decide_eq_false hm
                  have HLr := Aside0.mk HBr.out.low
                  have HYr := Aside0.mk ((HBr.out.keep _ HYL.out (fun m' h' => HNY.out m' h')).trans BYZ.out)
                  have HRr := Aside0.mk (Kd.R_step HYZ.out (fun q hq hlt => HBr.out.keep q hlt (fun m' h' => (HNB.out q hq.symm).2 m' h')))
                  clear HBr HBG HCE HNA HAP HNY BYZ HYZ
                  go_wp2
                  go_loopg [25] t232.length (fun jq v25 wy => ∃ (j : Nat) (X : List Int), v25 = .int .i64 (j : Int) ∧ j + jq = t232.length ∧ X.length = t232.length ∧ Aside0 (Below w56.heap.size w56 wy) ∧ Aside0 (wy.heap[V1.heap.size + 1]? = some (.cells #[.int .i64 t231, .slice Ay t232.length cy, .bool t235] 26 (0, 0))) ∧ Aside0 (Kd.R (Kd.int .u8) 5 wy w56.heap.size (fun q => some q = (Value.slice Ay t232.length cy).ownBlock) (.slice Ay t232.length cy) X))
                  case atStart => exact ⟨0, t232, rfl, by omega, rfl, HLr, HYr, HRr⟩
                  case round =>
                    obtain ⟨j, X, rfl, hjj, hXl, HLy, BYy, HRy⟩ := hrel
                    have hy0 : wr.cell? ⟨V1.heap.size + 1, 1, none⟩ = some (.slice Ay t232.length cy) := (blk_cell BYy.out 1).trans rfl
                    have hXm : X.length ≤ 9223372036854775807 := (Kd.R_reads' HRy.out).2.2.2.1
                    by_cases hjl : j < t232.length
                    · obtain ⟨bb, v, hAy, hbase, hxb⟩ := own_at HRy.out hjl
                      subst hAy
                      have hj0 : (0 : Int) ≤ (j : Int) := by omega
                      have hj1 : (j : Int) < (t232.length : Int) := by omega
                      have hd3 : decide ((j : Int) < (t232.length : Int)) = true := decide_eq_true hj1
                      have hd4 : decide (j < t232.length) = true := decide_eq_true hjl
                      have HBS := Aside0.mk hbase
                      have HN8 := Aside0.mk (show V1.heap.size + 1 ≠ bb by have h1 := (HNB.out bb (by simp [Value.ownBlock])).1; omega)
                      clear hbase
                      go_upto_region 25 with (fail)
                      refine start_ (n := 11) (S := fun w' => w'.cell? ⟨V1.heap.size + 1, 1, none⟩ = some (.slice (some ⟨bb, 0, none⟩) t232.length cy) ∧ w'.cell? ⟨bb, j, none⟩ = some (.int .u8 v)) (ds := [10]) #[false, false, false, false, false, false, false, false, false, false, false] (by kernel_rfl) rfl rfl ⟨hy0, hxb⟩ (fun hHeld => ?_)
                      obtain ⟨Wd, hWd⟩ : ∃ W, wr.drew = W := ⟨_, rfl⟩
                      have hbd : Below wr.heap.size wr Wd := by rw [← hWd]; exact below_drew (Below.refl _ _)
                      have HLd := Aside0.mk (HLy.out.trans (hbd.mono HLy.out.size))
                      have BYd := Aside0.mk (blk_below BYy.out hbd)
                      have HRd := Aside0.mk (Kd.R_below HRy.out hbd)
                      have hyd : Wd.cell? ⟨V1.heap.size + 1, 1, none⟩ = some (.slice (some ⟨bb, 0, none⟩) t232.length cy) := (hbd.cell (World.block_lt_of_cell? _ _ hy0)).trans hy0
                      have hxd : Wd.cell? ⟨bb, j, none⟩ = some (.int .u8 v) := (hbd.cell (World.block_lt_of_cell? _ _ hxb)).trans hxb
                      have hfd : Wd.frozen? ⟨bb, j, none⟩ = false := by have h := (Kd.R_celln (0 : Int) HRd.out (j : Int) (by omega) (by omega)).2; rwa [Int.toNat_natCast] at h
                      rw [hWd] at hHeld ⊢
                      clear hWd hbd hy0 hxb HLy BYy HRy
                      refine pure_ (i := 0) (N := some 144) (v := ?_) (a' := ?_) #[true, false, false, false, false, false, false, false, false, false, false] rfl rfl (by kernel_rfl) (fun _ _ _ h => h) (Or.inl ⟨by rfl, ?_⟩) ?_ ?_
                      rotate_left
                      · intro w'
                        go_simp
                        with_reducible rfl
                      rotate_left
                      · simp only [Act.put, List.setIfInBounds_toArray, List.set_cons_zero, List.set_cons_succ, i64_w, i32_w]
                        rfl
                      refine pure_ (i := 2) (N := some 146) (v := ?_) (a' := ?_) #[true, false, true, false, false, false, false, false, false, false, false] rfl rfl (by kernel_rfl) (fun _ _ _ h => h) (Or.inl ⟨by rfl, ?_⟩) ?_ ?_
                      rotate_left
                      · intro w'
                        go_simp
                        with_reducible rfl
                      rotate_left
                      · simp only [Act.put, List.setIfInBounds_toArray, List.set_cons_zero, List.set_cons_succ, i64_w, i32_w]
                        rfl
                      refine pure_ (i := 3) (N := some 147) (v := ?_) (a' := ?_) #[true, false, true, true, false, false, false, false, false, false, false] rfl rfl (by kernel_rfl) (fun _ _ _ h => h) (Or.inl ⟨by rfl, ?_⟩) ?_ ?_
                      rotate_left
                      · intro w'
                        go_simp
                        with_reducible rfl
                      rotate_left
                      · simp only [Act.put, List.setIfInBounds_toArray, List.set_cons_zero, List.set_cons_succ, i64_w, i32_w]
                        rfl
                      refine pure_ (i := 5) (N := some 149) (v := ?_) (a' := ?_) #[true, false, true, true, false, true, false, false, false, false, false] rfl rfl (by kernel_rfl) (fun _ _ _ h => h) (Or.inl ⟨by rfl, ?_⟩) ?_ ?_
                      rotate_left
                      · intro w'
                        go_simp
                        with_reducible rfl
                      rotate_left
                      · simp only [Act.put, List.setIfInBounds_toArray, List.set_cons_zero, List.set_cons_succ, i64_w, i32_w]
                        rfl
                      refine take_ (i := 1) (N := some 145) (v := ?_) (a' := ?_) #[true, true, true, true, false, true, false, false, false, false, false] rfl rfl (by kernel_rfl) (fun _ _ _ h => h) (Or.inl ⟨by rfl, ?_⟩) hHeld ?_ ?_
                      rotate_left
                      · rintro w' ⟨s0, s1⟩
                        go_simp
                        with_reducible rfl
                      rotate_left
                      · simp only [Act.put, List.setIfInBounds_toArray, List.set_cons_zero, List.set_cons_succ, i64_w, i32_w]
                        rfl
                      refine take_ (i := 4) (N := some 148) (v := ?_) (a' := ?_) #[true, true, true, true, true, true, false, false, false, false, false] rfl rfl (by kernel_rfl) (fun _ _ _ h => h) (Or.inl ⟨by rfl, ?_⟩) hHeld ?_ ?_
                      rotate_left
                      · rintro w' ⟨s0, s1⟩
                        go_simp
                        with_reducible rfl
                      rotate_left
                      · simp only [Act.put, List.setIfInBounds_toArray, List.set_cons_zero, List.set_cons_succ, i64_w, i32_w]
                        rfl
                      refine pure_ (i := 6) (N := some 150) (v := ?_) (a' := ?_) #[true, true, true, true, true, true, true, false, false, false, false] rfl rfl (by kernel_rfl) (fun _ _ _ h => h) (Or.inl ⟨by rfl, ?_⟩) ?_ ?_
                      rotate_left
                      · intro w'
                        go_simp
                        with_reducible rfl
                      rotate_left
                      · simp only [Act.put, List.setIfInBounds_toArray, List.set_cons_zero, List.set_cons_succ, i64_w, i32_w]
                        rfl
                      refine take_ (i := 7) (N := some 151) (v := ?_) (a' := ?_) #[true, true, true, true, true, true, true, true, false, false, false] rfl rfl (by kernel_rfl) (fun _ _ _ h => h) (Or.inl ⟨by rfl, ?_⟩) hHeld ?_ ?_
                      rotate_left
                      · rintro w' ⟨s0, s1⟩
                        go_simp
                        with_reducible rfl
                      rotate_left
                      · simp only [Act.put, List.setIfInBounds_toArray, List.set_cons_zero, List.set_cons_succ, i64_w, i32_w]
                        rfl
                      refine pure_ (i := 8) (N := some 152) (v := ?_) (a' := ?_) #[true, true, true, true, true, true, true, true, true, false, false] rfl rfl (by kernel_rfl) (fun _ _ _ h => h) (Or.inl ⟨by rfl, ?_⟩) ?_ ?_
                      rotate_left
                      · intro w'
                        go_simp
                        with_reducible rfl
                      rotate_left
                      · simp only [Act.put, List.setIfInBounds_toArray, List.set_cons_zero, List.set_cons_succ, i64_w, i32_w]
                        rfl
                      refine pure_ (i := 9) (N := some 153) (v := ?_) (a' := ?_) #[true, true, true, true, true, true, true, true, true, true, false] rfl rfl (by kernel_rfl) (fun _ _ _ h => h) (Or.inl ⟨by rfl, ?_⟩) ?_ ?_
                      rotate_left
                      · intro w'
                        go_simp
                        with_reducible rfl
                      rotate_left
                      · simp only [Act.put, List.setIfInBounds_toArray, List.set_cons_zero, List.set_cons_succ, i64_w, i32_w]
                        rfl
                      refine last_ (i := 10) (N := none) #[true, true, true, true, true, true, true, true, true, true, true] rfl rfl (by kernel_rfl) (by decide) (fun K hK => ?_)
                      refine skip_ (w1 := ?_) (by rfl) rfl ?_ ?_
                      rotate_left
                      · go_simp
                        rfl
                      refine hK.out _ _ ?_
                      clear hK K
                      refine done_ (by kernel_rfl) ?_
                      go_wp2
                      go_roundg (t232.length - j - 1)
                      case measure => omega
                      case rel => exact ⟨j + 1, X.set j _, by simp, by omega, by rw [List.length_set]; exact hXl, ⟨HLd.out.setCell (p := ⟨bb, j, none⟩) HBS.out _⟩, ⟨blk_far BYd.out (p := ⟨bb, j, none⟩) HN8.out _⟩, ⟨put_row HRd.out j _⟩⟩
                    · have hd3 : decide ((j : Int) < (t232.length : Int)) = false := decide_eq_false (by omega)
                      have hd4 : decide (j < t232.length) = false := decide_eq_false hjl
                      have hz0 : wr.cell? ⟨gb203, 0, none⟩ = some (.slice A0_0 l0_0.length c0_0) := (blk_cell (blk_below BK203.out HLy.out) 0).trans rfl
                      have hz1 : wr.cell? ⟨gb203, 1, none⟩ = some (.int .i64 a0_1) := (blk_cell (blk_below BK203.out HLy.out) 1).trans rfl
                      have hu0 : wr.cell? ⟨gb211, 0, none⟩ = some (.slice Ao40 t207.length co40) := (blk_cell (blk_below BK211.out HLy.out) 0).trans rfl
                      have hu1 : wr.cell? ⟨gb211, 1, none⟩ = some (.int .i64 t210) := (blk_cell (blk_below BK211.out HLy.out) 1).trans rfl
                      clear HRy BYy
                      go_wp2_with (go_at_call 17; refine Stop.out ?_)
                      refine ⟨?_⟩
                      refine (garlandref08_Same.calls kj4 A0_0 c0_0 l0_0 a0_1 Ao40 co40 t207 t210 true _ (Kd.C_below HR0_0.out (HBw.out.trans (HLy.out.mono HBw.out.size))) HC0_0.out (Kd.C_below (Kd.N_reads' HO209.out).2.2 HLy.out) (Kd.N_reads' HO209.out).2.1 A31.out).mono ?_
                      rintro e V9 ⟨rfl, hb⟩
                      dsimp only
                      have HL9 := Aside0.mk (HLy.out.trans (hb.mono HLy.out.size))
                      clear hb hz0 hz1 hu0 hu1 hy0
                      have hg0 : V9.cell? ⟨gb204, 0, none⟩ = some (.int .i64 a1_0) := (blk_cell (blk_below BK204.out HL9.out) 0).trans rfl
                      have hg1 : V9.cell? ⟨gb204, 1, none⟩ = some (.slice A1_1 l1_1.length c1_1) := (blk_cell (blk_below BK204.out HL9.out) 1).trans rfl
                      have hg2 : V9.cell? ⟨gb204, 2, none⟩ = some (.bool a1_2) := (blk_cell (blk_below BK204.out HL9.out) 2).trans rfl
                      have hu0 : V9.cell? ⟨gb218, 0, none⟩ = some (.int .i64 a1_0) := (blk_cell (blk_below BK218.out HL9.out) 0).trans rfl
                      have hu1 : V9.cell? ⟨gb218, 1, none⟩ = some (.slice Ao52 y215.length co52) := (blk_cell (blk_below BK218.out HL9.out) 1).trans rfl
                      have hu2 : V9.cell? ⟨gb218, 2, none⟩ = some (.bool a1_2) := (blk_cell (blk_below BK218.out HL9.out) 2).trans rfl
                      go_wp2_with (go_at_call 10; refine Stop.out ?_)
                      refine ⟨?_⟩
                      refine (garlandref08_Gram.calls a1_0 A1_1 c1_1 l1_1 a1_2 a1_0 Ao52 co52 y215 a1_2 true _ (Kd.C_below (Kd.V_reads' HO_205001.out).2.2 HL9.out) (Kd.V_reads' HO_205001.out).2.1 (Kd.C_below (Kd.R_reads' HO217.out).2.2 HL9.out) (Kd.R_reads' HO217.out).2.1 A33.out).mono ?_
                      rintro e V10 ⟨rfl, hb⟩
                      dsimp only
                      have HL10 := Aside0.mk (HL9.out.trans (hb.mono HL9.out.size))
                      clear hb hg0 hg1 hg2 hu0 hu1 hu2
                      go_wp2_with (go_at_call 6; refine Stop.out ?_)
                      refine ⟨?_⟩
                      refine (garlandlaw08_wakes.calls kj4 t266 _ A35.out).mono ?_
                      rintro e V11 ⟨rfl, hb⟩
                      dsimp only
                      have HL11 := Aside0.mk (HL10.out.trans (hb.mono HL10.out.size))
                      clear hb
                      go_wp2
                      go_ret
                      exact ⟨rfl, HBw.out.trans (HL11.out.mono HBw.out.size)⟩
            · replace c34 := Bool.eq_false_iff.mpr c34
              subst c34
              have H1 : (none) = some r := by rw [if_neg (show ¬ (false = true) by decide)] at H; exact H
              clear H
              have H := H1
              clear H1
              exact absurd H (by simp)
          · replace c32 := Bool.eq_false_iff.mpr c32
            subst c32
            have H1 : (none) = some r := by rw [if_neg (show ¬ (false = true) by decide)] at H; exact H
            clear H
            have H := H1
            clear H1
            exact absurd H (by simp)
        · rw [if_neg c24] at H
          exact absurd H (by simp)

end Go.Proofs.Ytoookgkhelcngaa.G
