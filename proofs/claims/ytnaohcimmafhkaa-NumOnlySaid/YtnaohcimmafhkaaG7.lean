/- What calls of the program's functions answer: contracts, printed by this session's program (wip/tools/gprint.py) or told by hand. -/
import Derived.Test.YtnaohcimmafhkaaG0
import Derived.Test.YtnaohcimmafhkaaG6
import Derived.Test.YtnaohcimmafhkaaScope
import Derived.WalkSpells
import Derived.WalkMore
import Derived.WalkMore
import Derived.Test.YtnaohcimmafhkaaScope
namespace Go.Proofs.Ytnaohcimmafhkaa.G
open Go.RowKit Go.Proofs.YtnaohcimmafhkaaW.PrintWords Go.Proofs.YtnaohcimmafhkaaW.PrintLast Go.Proofs.YtnaohcimmafhkaaW.PrintMore
attribute [local go_sem] max2_int min2_int max_two min_two max_three min_three max_four min_four   -- for this text's walks alone
set_option linter.unusedVariables false
set_option linter.unusedSimpArgs false

/-! ### num_Take: function 17 -/
/-- The number that bytes are, the first the highest. -/
def numOf (l : List Int) : Int := l.foldl (fun n x => Go.bits .or .i64 (wrap64 (n * 256)) x) 0
theorem numOf_snoc (l : List Int) (x : Int) : numOf (l ++ [x]) = Go.bits .or .i64 (wrap64 (numOf l * 256)) x := by simp [numOf]

def num_Take.f (l0 : List Int) : Option (Int × List Int × Int) :=
  if (∀ x ∈ l0, 0 ≤ x ∧ x < 256) ∧ l0.length ≤ 1000000000 then
    (if l0.length = 0 then some (0, [], 11)
    else if 6 < l0.headD 0 then some (0, [], 12)
    else if (l0.length : Int) ≤ l0.headD 0 then some (0, [], 11)
    else if l0.headD 0 = 0 ∨ (0 < (l0.drop 1).headD 0 ∧ numOf ((l0.drop 1).take (l0.headD 0).toNat) ≤ 1099511627776) then
      some (numOf ((l0.drop 1).take (l0.headD 0).toNat), (l0.drop 1).drop (l0.headD 0).toNat, 0)
    else some (0, [], 12))
  else none

theorem getD_lt {l : List Int} {n : Nat} (h : n < l.length) : l.getD n 0 ∈ l := by
  rw [List.getD_eq_getElem?_getD, List.getElem?_eq_getElem h]; exact List.getElem_mem h

set_option maxRecDepth 100000 in
set_option maxHeartbeats 8000000 in
theorem num_Take.calls (A0 : Option Addr) (c0 : Nat) (l0 : List Int) (r1 : Int) (r2 : List Int) (r3 : Int) (w : World) (hr0 : Kd.C (Kd.int .u8) w A0 l0.length l0) (hc0 : l0.length ≤ c0) (h : num_Take.f l0 = some (r1, r2, r3)) :
    Calls Try.prog 17 #[.slice A0 l0.length c0] w fun e w' => ∃ v1_ : Value, e = .returned (.tuple #[.int .i64 r1, v1_, .int .i64 r3]) ∧ Kd.R (Kd.int .u8) 5 w' w.heap.size (fun _ => True) v1_ r2 ∧ Below w.heap.size w w' := by
  unfold num_Take.f at h
  by_cases hg : (∀ x ∈ l0, 0 ≤ x ∧ x < 256) ∧ l0.length ≤ 1000000000
  case neg =>
    rw [if_neg hg] at h
    exact absurd h (by simp)
  rw [if_pos hg] at h
  obtain ⟨hby, hlen⟩ := hg
  have hB := Below.refl w.heap.size w
  cases l0 with
  | nil =>
    simp only [List.length_nil, if_true] at h
    obtain ⟨rfl, rfl, rfl⟩ := by simpa only [Option.some.injEq, Prod.mk.injEq] using h
    go_enter Try.func17, Try.ntmps17
    go_wp2
    refine Scope.wp_scope_once 0 rfl ?_
    go_wp2
    ((try (go_step3; refine ⟨rfl, ?_⟩; go_wp2)); (try (refine wp_label ?_; go_wp2)); (first | go_ret3 | (rw [Exit.noGoto_ret]; go_ret3) | (refine Scope.jump_ret_of ?_; go_ret3)))
    exact ⟨_, rfl, Kd.R_nil _ _ _ _ _, hB⟩
  | cons b t =>
    have hb := hby b List.mem_cons_self
    have hbt := fun x hx => hby x (List.mem_cons_of_mem b hx)
    clear hby
    simp only [List.length_cons, Nat.add_eq_zero_iff, Nat.one_ne_zero, and_false, if_false, List.headD_cons, List.drop_succ_cons, List.drop_zero] at h
    obtain ⟨ad, rfl, hx0⟩ := Kd.at_int hr0 0 (by omega) (by simp)
    simp only [rd, rdOf, Int.toNat_zero, List.getD_cons_zero] at hx0
    have hw : wrap64 b = b := by unfold wrap64; omega
    have hcell : w.cell? ad = some (.int .u8 b) := hx0
    clear hx0
    by_cases h6 : 6 < b
    · rw [if_pos h6] at h
      obtain ⟨rfl, rfl, rfl⟩ := by simpa only [Option.some.injEq, Prod.mk.injEq] using h
      go_enter Try.func17, Try.ntmps17
      go_wp2
      refine Scope.wp_scope_once 0 rfl ?_
      go_wp2
      ((try (go_step3; refine ⟨rfl, ?_⟩; go_wp2)); (try (refine wp_label ?_; go_wp2)); (first | go_ret3 | (rw [Exit.noGoto_ret]; go_ret3) | (refine Scope.jump_ret_of ?_; go_ret3)))
      exact ⟨_, rfl, Kd.R_nil _ _ _ _ _, hB⟩
    rw [if_neg h6] at h
    by_cases hs : ((t.length + 1 : Nat) : Int) ≤ b
    · rw [if_pos hs] at h
      obtain ⟨rfl, rfl, rfl⟩ := by simpa only [Option.some.injEq, Prod.mk.injEq] using h
      go_enter Try.func17, Try.ntmps17
      go_wp2
      refine Scope.wp_scope_once 0 rfl ?_
      go_wp2
      ((try (go_step3; refine ⟨rfl, ?_⟩; go_wp2)); (try (refine wp_label ?_; go_wp2)); (first | go_ret3 | (rw [Exit.noGoto_ret]; go_ret3) | (refine Scope.jump_ret_of ?_; go_ret3)))
      exact ⟨_, rfl, Kd.R_nil _ _ _ _ _, hB⟩
    rw [if_neg hs] at h
    obtain ⟨m, rfl⟩ : ∃ m : Nat, b = (m : Int) := ⟨b.toNat, by omega⟩
    rw [Int.toNat_natCast] at h
    have hm6 : m ≤ 6 := by omega
    have hmt : m ≤ t.length := by omega
    obtain ⟨i0, hi, _, hsz, _⟩ := info_parts info5
    obtain ⟨Am, hcut, hAm, _⟩ := print_mid_of (P := Try.prog) (Value.int .u8) 0 23 5 .i64 .i64 Try.underlying23 hi hsz (some ad) c0 ((m : Int) :: t) 1 (1 + (m : Int)) (by omega) (by omega) (by simp; omega) hc0
    have hds : List.drop (Int.toNat 1) (List.take (1 + (m : Int)).toNat ((m : Int) :: t)) = t.take m := by
      rw [show (1 + (m : Int)).toNat = m + 1 by omega]; rfl
    have hdl : (t.take m).length = m := by rw [List.length_take]; omega
    have hrm := Kd.C_of_reads (h1 := fun _ => rfl) (hAm w (Kd.reads_of_C hr0))
    rw [hds] at hrm hcut
    rw [hdl] at hrm hcut
    clear hAm
    obtain ⟨Ad, hcutd, hAd, hCd⟩ := print_drop_of (P := Try.prog) (Value.int .u8) 0 23 5 .i64 Try.underlying23 hi hsz (some ad) c0 ((m : Int) :: t) (1 + (m : Int)) (by omega) (by simp; omega) hc0
    have hdd : List.drop (1 + (m : Int)).toNat ((m : Int) :: t) = t.drop m := by
      rw [show (1 + (m : Int)).toNat = m + 1 by omega]; rfl
    have hrd := Kd.C_of_reads (h1 := fun _ => rfl) (hAd w (Kd.reads_of_C hr0))
    rw [hdd] at hrd hcutd hCd
    obtain ⟨T, hT⟩ : ∃ T, t.drop m = T := ⟨_, rfl⟩
    obtain ⟨cc, hcc⟩ : ∃ cc, c0 - (1 + (m : Int)).toNat = cc := ⟨_, rfl⟩
    have hTl : T.length ≤ 1000000000 := by rw [← hT, List.length_drop]; simp only [List.length_cons] at hlen; omega
    rw [hT, hcc] at hcutd hCd
    rw [hT] at hrd h
    clear hcc hT
    clear hAd hds hdd
    simp only [List.length_cons] at hcut hcutd
    have HCUT := Aside0.mk hcut
    have HCUTD := Aside0.mk hcutd
    have HRM := Aside0.mk hrm
    have HRD := Aside0.mk hrd
    have HCD := Aside0.mk hCd
    have HH := Aside0.mk h
    have HR0 := Aside0.mk hr0
    have HC0 := Aside0.mk hc0
    clear hrm hrd hCd h hr0 hc0 hcutd
    have HBT := Aside0.mk hbt
    clear hbt
    have HB := Aside0.mk hB
    clear hB
    go_enter Try.func17, Try.ntmps17
    go_wp2
    refine Scope.wp_scope_once 0 rfl ?_
    go_wp2
    clear hcut
    go_loop [2, 26] (fun v2 v26 => ∃ k : Nat, k ≤ m ∧ v2 = .int .i64 (numOf ((t.take m).take k)) ∧ v26 = .int .i64 (k : Int)) (fun _ v26 => m - (intOf v26).toNat)
    case atStart => exact ⟨0, Nat.zero_le _, rfl, rfl⟩
    case round =>
      obtain ⟨k, hk, rfl, rfl⟩ := hrel
      by_cases hlt : k < m
      · obtain ⟨am, rfl, hck⟩ := Kd.at_int HRM.out (k : Int) (by omega) (by omega)
        rw [Int.toNat_natCast] at hck
        obtain ⟨x, hx⟩ : ∃ x, rd (t.take m) (k : Int) = x := ⟨_, rfl⟩
        have hkl : k < (t.take m).length := by omega
        have hxm : (t.take m)[k]? = some x := by
          have e := hx
          simp only [rd, rdOf, Int.toNat_natCast, List.getD_eq_getElem?_getD] at e
          rw [List.getElem?_eq_getElem hkl] at e ⊢
          rw [← e]; rfl
        have hxb := HBT.out x (List.mem_of_mem_take (List.mem_of_getElem? hxm))
        have hwx : wrap64 x = x := by unfold wrap64; omega
        rw [hx] at hck
        have hsn : numOf ((t.take m).take (k + 1)) = Go.bits .or .i64 (wrap64 (numOf ((t.take m).take k) * 256)) x := by
          rw [List.take_add_one, hxm, ← numOf_snoc]; rfl
        go_wp2
        go_round
        case rel => exact ⟨k + 1, by omega, by rw [hsn], by simp⟩
        case measure => simp [intOf]; omega
      · obtain rfl : k = m := by omega
        rw [List.take_of_length_le (Nat.le_of_eq hdl)]
        have H := HH.out
        clear HH
        rcases Nat.eq_zero_or_pos k with rfl | hp
        · rw [if_pos (.inl rfl)] at H
          obtain ⟨rfl, rfl, rfl⟩ := by simpa only [Option.some.injEq, Prod.mk.injEq] using H
          clear H
          have hcd : ∀ W : World, (Instr.slice 23 (.slice (some ad) (t.length + 1) c0) (some (.int .i64 1)) none none).run Try.prog W = .ok (.slice Ad T.length cc) W := by simpa using HCUTD.out
          go_wp2_with (go_at_call 27; refine (bytes_Clone.calls Ad cc T T _ HRD.out HCD.out (by unfold bytes_Clone.f; rw [if_pos (by omega)])).mono ?_; rintro e w1 ⟨v1, rfl, ho1, hb1⟩)
          ((try (go_step3; refine ⟨rfl, ?_⟩; go_wp2)); (try (refine wp_label ?_; go_wp2)); (first | go_ret3 | (rw [Exit.noGoto_ret]; go_ret3) | (refine Scope.jump_ret_of ?_; go_ret3)))
          exact ⟨_, rfl, ho1, hb1⟩
        · obtain ⟨y, t', rfl⟩ : ∃ y t', t = y :: t' := by
            cases t with
            | nil => simp only [List.length_nil] at hmt; omega
            | cons y t' => exact ⟨y, t', rfl⟩
          have hcd := HCUTD.out
          simp only [List.length_cons] at hcd
          obtain ⟨ad1, e1, hx1⟩ := Kd.at_int HR0.out 1 (by omega) (by simp; omega)
          cases e1
          have hc1 : w.cell? ⟨ad.block, ad.off + 1, none⟩ = some (.int .u8 y) := hx1
          clear hx1
          have hyb := HBT.out y List.mem_cons_self
          simp only [List.headD_cons] at H
          obtain ⟨V, hV⟩ : ∃ V, numOf (List.take k (y :: t')) = V := ⟨_, rfl⟩
          rw [hV] at H ⊢
          by_cases hy : 0 < y
          · by_cases hn : V ≤ 1099511627776
            · have hq : (k : Int) = 0 ∨ 0 < y ∧ V ≤ 1099511627776 := .inr ⟨hy, hn⟩
              replace H : some (V, T, (0 : Int)) = some (r1, r2, r3) := by rw [← H]; exact (if_pos hq).symm
              obtain ⟨rfl, rfl, rfl⟩ := by simpa only [Option.some.injEq, Prod.mk.injEq] using H
              clear H
              go_wp2_with (go_at_call 27; refine (bytes_Clone.calls Ad cc T T _ HRD.out HCD.out (by unfold bytes_Clone.f; rw [if_pos (by omega)])).mono ?_; rintro e w1 ⟨v1, rfl, ho1, hb1⟩)
              ((try (go_step3; refine ⟨rfl, ?_⟩; go_wp2)); (try (refine wp_label ?_; go_wp2)); (first | go_ret3 | (rw [Exit.noGoto_ret]; go_ret3) | (refine Scope.jump_ret_of ?_; go_ret3)))
              exact ⟨_, rfl, ho1, hb1⟩
            · have hq : ¬ ((k : Int) = 0 ∨ 0 < y ∧ V ≤ 1099511627776) := by omega
              replace H : some ((0 : Int), ([] : List Int), (12 : Int)) = some (r1, r2, r3) := by rw [← H]; exact (if_neg hq).symm
              obtain ⟨rfl, rfl, rfl⟩ := by simpa only [Option.some.injEq, Prod.mk.injEq] using H
              clear H
              go_wp2
              ((try (go_step3; refine ⟨rfl, ?_⟩; go_wp2)); (try (refine wp_label ?_; go_wp2)); (first | go_ret3 | (rw [Exit.noGoto_ret]; go_ret3) | (refine Scope.jump_ret_of ?_; go_ret3)))
              exact ⟨_, rfl, Kd.R_nil _ _ _ _ _, HB.out⟩
          · have hq : ¬ ((k : Int) = 0 ∨ 0 < y ∧ V ≤ 1099511627776) := by omega
            replace H : some ((0 : Int), ([] : List Int), (12 : Int)) = some (r1, r2, r3) := by rw [← H]; exact (if_neg hq).symm
            obtain ⟨rfl, rfl, rfl⟩ := by simpa only [Option.some.injEq, Prod.mk.injEq] using H
            clear H
            go_wp2
            ((try (go_step3; refine ⟨rfl, ?_⟩; go_wp2)); (try (refine wp_label ?_; go_wp2)); (first | go_ret3 | (rw [Exit.noGoto_ret]; go_ret3) | (refine Scope.jump_ret_of ?_; go_ret3)))
            exact ⟨_, rfl, Kd.R_nil _ _ _ _ _, HB.out⟩


end Go.Proofs.Ytnaohcimmafhkaa.G
