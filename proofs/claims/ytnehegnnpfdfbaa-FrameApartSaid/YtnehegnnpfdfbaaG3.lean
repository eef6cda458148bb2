/- What calls of the program's functions answer: contracts, printed by this session's program (wip/tools/gprint.py) or told by hand. -/
import Derived.Test.YtnehegnnpfdfbaaG0
import Derived.Test.YtnehegnnpfdfbaaG1
import Derived.Test.YtnehegnnpfdfbaaG5
import Derived.RangeFuncNested
import Derived.RangeFuncBound
import Derived.RangeFuncCalls
import Derived.RangeFuncLeaves
import Derived.Shelf.Abstract
import Derived.Shelf.RegionOpen
import Derived.WalkKit
import Derived.OwnWalkIn
import Derived.TacticsInMore
import Derived.LoopNIn
import Derived.LoopIn
import Derived.RangeFuncBox
import Derived.ScopeJumps
import Derived.WalkMore
import Derived.WalkSpells
namespace Go.Proofs.Ytnehegnnpfdfbaa.G
open Go.RowKit Go.Proofs.YtnehegnnpfdfbaaW.PrintWords Go.Proofs.YtnehegnnpfdfbaaW.PrintLast Go.Proofs.YtnehegnnpfdfbaaW.PrintMore
attribute [local go_sem] max2_int min2_int max_two min_two max_three min_three max_four min_four   -- for this text's walks alone
set_option linter.unusedVariables false
set_option linter.unusedSimpArgs false

/-! ### frame_Sum: function 16 -/
open Go.Shelf
/-- Blocks of cells, but those of T, lie as they lay. -/
def KeepCells (T : Nat → Prop) (W W' : World) : Prop := ∀ k o, W.heap[k]? = some o → o.isCells = true → ¬ T k → W'.heap[k]? = some o
theorem KeepCells.refl (T : Nat → Prop) (W : World) : KeepCells T W W := fun _ _ h _ _ => h
theorem KeepCells.t {T : Nat → Prop} {A B C : World} (h : KeepCells T A B) (k : KeepCells T B C) : KeepCells T A C := fun i o hi hc ht => k i o (h i o hi hc ht) hc ht
theorem KeepCells.b {T : Nat → Prop} (W : World) (l : Nat) (o o' : Obj) (h : W.heap[l]? = some o) (hc : o.isCells = false) : KeepCells T W (W.putObj l o') := fun k o2 hk hc2 _ => by
  by_cases e : k = l
  · subst e; rw [h] at hk; cases hk; rw [hc] at hc2; cases hc2
  · exact (World.putObj_heap_other e).trans hk
theorem KeepCells.setCell {T : Nat → Prop} (W : World) (b j : Nat) (v : Value) (hT : T b) : KeepCells T W (W.setCell ⟨b, j, none⟩ v) := fun k o hk _ ht =>
  (Below.heap_setCell W ⟨b, j, none⟩ v k (fun e => ht (by rw [e]; exact hT))).trans hk
theorem KeepCells.cell {T : Nat → Prop} {W W' : World} (h : KeepCells T W W') {a : Addr} {v : Value} (hc : W.cell? a = some v) (ht : ¬ T a.block) : W'.cell? a = some v := by
  obtain ⟨o, ho, hk⟩ := cells_of_cell hc
  exact (World.cell?_of_block ((h _ o ho hk ht).trans ho.symm)).trans hc

/-- A scope in which the run jumps back to one label, inside the wide fence. -/
theorem wpIn_scope_jumps {n : Nat} {P : Program} {a : Act} {w : World} {Q : Exit → Act → World → Prop} {c rest : Code} (l : Nat) (J : Act → World → Prop) (μ : Act → World → Nat) (hf : findLabel c l = some rest)
    (first : c.wpIn Fence.wide n P (Exit.jump l J Q) a w)
    (pass : ∀ a w, J a w → rest.wpIn Fence.wide n P (Exit.jump l (fun a' w' => J a' w' ∧ μ a' w' < μ a w) Q) a w) : (Code.scope c).wpIn Fence.wide n P Q a w :=
  wpIn_wide.2 (wp_scope_jumps l J μ hf (wpIn_wide.1 first) (fun a w h => wpIn_wide.1 (pass a w h)))

theorem jump_normal {l : Nat} {J : Act → World → Prop} {Q : Exit → Act → World → Prop} {a : Act} {w : World} : Exit.jump l J Q .normal a w = Q .normal a w := rfl
theorem jump_ret {l : Nat} {J : Act → World → Prop} {Q : Exit → Act → World → Prop} {a : Act} {w : World} : Exit.jump l J Q .ret a w = Q .ret a w := rfl
theorem jump_block_normal {l id : Nat} {J K : Act → World → Prop} {Q : Exit → Act → World → Prop} {a : Act} {w : World} : Exit.jump l J (Exit.inBlock id (Exit.then K Q)) .normal a w = K a w := rfl
theorem jump_block_ret {l id : Nat} {J K : Act → World → Prop} {Q : Exit → Act → World → Prop} {a : Act} {w : World} : Exit.jump l J (Exit.inBlock id (Exit.then K Q)) .ret a w = Q .ret a w := rfl

def bitOf (b x : Int) : Bool := Go.bits .and .u8 b x != 0
def ats : List Int := [128, 64, 32, 16, 8, 4, 2, 1]
def byteBits (b : Int) : List Bool := ats.map (bitOf b)
/-- The bits that the sum goes by. -/
def bitsOf (l : List Int) : List Bool := (l ++ [0, 0, 0, 0]).flatMap byteBits
def bitsTo (l : List Int) (i : Nat) : List Bool := ((l ++ [0, 0, 0, 0]).take i).flatMap byteBits

theorem bitsTo_succ (xs : List Int) (k : Nat) (b : Int) (h : (xs ++ [0, 0, 0, 0])[k]? = some b) : bitsTo xs (k + 1) = bitsTo xs k ++ byteBits b := by
  unfold bitsTo
  rw [List.take_add_one, h]
  simp
theorem byteBits_len (b : Int) : (byteBits b).length = 8 := rfl
theorem flat_len (l : List Int) : (l.flatMap byteBits).length = 8 * l.length := by
  induction l with
  | nil => rfl
  | cons a l ih => rw [List.flatMap_cons, List.length_append, byteBits_len, ih]; simp; omega
theorem bitsTo_len (xs : List Int) (k : Nat) (b : Int) (h : (xs ++ [0, 0, 0, 0])[k]? = some b) : (bitsTo xs k).length + 8 ≤ (bitsOf xs).length := by
  have hk := (List.getElem?_eq_some_iff.1 h).1
  unfold bitsTo bitsOf
  rw [flat_len, flat_len, List.length_take]
  omega

set_option maxRecDepth 100000 in
set_option maxHeartbeats 8000000 in
theorem bits1_any (n : Nat) (hn : 1 ≤ n) (l Bs : Nat) (T : Nat → Prop) (A : Option Addr) (c : Nat) (xs : List Int) (hx : xs.length ≤ 1000000000) (J Jx : List Bool → World → Prop)
    (hY : ∀ pre x W, J pre W → pre.length < (bitsOf xs).length → YieldAt Fence.wide (n - 1) Try.prog l #[.bool x] W fun e W' =>
      (e = .returned (.bool true) ∧ J (pre ++ [x]) W' ∧ KeepCells T W W') ∨ (e = .returned (.bool false) ∧ Jx (pre ++ [x]) W'))
    (W : World) (hJ : AbidesFrom W.heap.size J) (hT : ∀ k, T k → k < W.heap.size) (hBs : W.cell? ⟨Bs, 0, none⟩ = some (.slice A xs.length c)) (hTB : ¬ T Bs) (hr : Kd.C (Kd.int .u8) W A xs.length xs) (hc : xs.length ≤ c) (h0 : J [] W) :
    CallsIn Fence.wide n Try.prog 25 #[.func (.yield l) #[] #[], .pointer (some ⟨Bs, 0, none⟩)] W fun e W' => (∃ v, e = .returned v) ∧
      ((∃ ys, ys = bitsOf xs ∧ J ys W') ∨ (∃ pre, True ∧ Jx pre W')) := by
  refine callsIn_of_wp Try.func25 rfl trivial ?_ rfl
  simp only [Try.ntmps25, List.size_toArray, List.length_cons, List.length_nil, Nat.reduceAdd, Nat.reduceSub, Array.replicate_succ, Array.replicate_zero, List.push_toArray, List.append_toArray, List.nil_append, List.cons_append]
  refine wpIn_seq_k (fun K hK => ?_)
  refine wpIn_wide.2 ?_
  have HR := Aside0.mk hr
  have HC := Aside0.mk hc
  have HB := Aside0.mk (Below.refl W.heap.size W)
  have HX := Aside0.mk hx
  have HY := Aside0.mk hY
  have HJ := Aside0.mk hJ
  have HT := Aside0.mk hT
  have H0 := Aside0.mk h0
  clear hr hc hx hY hJ hT h0
  go_wp2_with (first
    | (go_at_call 23; refine (bytes_Clone.calls A c xs xs _ HR.out HC.out (by unfold bytes_Clone.f; rw [if_pos (by have := HX.out; omega)])).mono ?_; rintro e w1 ⟨v1, rfl, ho1, hb1⟩; have HO1 := Aside0.mk ho1; clear HB; have HB := Aside0.mk hb1; clear ho1 hb1)
    | ((with_reducible refine gate_dst (N := 8) rfl ?_); refine Kd.R_lit (Kd.int .u8) _ 5 ?hg (N := 8) ?hd (xs := ([0, 0, 0, 0] : List Int)) (inner := [.int .u8 0, .int .u8 0, .int .u8 0, .int .u8 0]) (ok := fun _ => True) (okp := fun _ => True) ?hr ?hp (fun _ hk => hk) trivial (Below.refl _ _) (Nat.le_refl _) (by simp) ?_; (case hd => rfl); (case hg => rfl); (case hr => first | (go_simp; done) | (go_simp; rfl)); (case hp => exact (Reps.one (show Kd.M (Kd.int .u8) _ _ _ 0 [.int .u8 0] from rfl) (Reps.one (show Kd.M (Kd.int .u8) _ _ _ 0 [.int .u8 0] from rfl) (Reps.one (show Kd.M (Kd.int .u8) _ _ _ 0 [.int .u8 0] from rfl) (Reps.one (show Kd.M (Kd.int .u8) _ _ _ 0 [.int .u8 0] from rfl) (Reps.none _ _)))))); intro v2 w2 ho2 hb hg_ hnew_; clear hg_ hnew_;
        have n0_ := Aside0.mk (Kd.R_below HO1.out hb); have n1_ := Aside0.mk (below_step HB.out hb); clear HB HO1; have HO1 := n0_; have HO2 := Aside0.mk ho2; have HB := n1_; clear n0_ n1_; clear hb ho2; obtain ⟨A2, c2, e2⟩ := Kd.R_slice HO2.out; subst e2)
    | ((with_reducible refine gate_builtin (b := .append) (xs := #[.tmp 7, .tmp 8]) rfl ?_); at_builtin; refine Kd.R_append_rows (Kd.int .u8) (w0 := W) W.heap.size rfl (.tmp 7) (.tmp 8) 23 5 (.int .u8 0) 1 rfl Try.underlying23 info5 rfl (by decide) (by omega) v1 xs [0, 0, 0, 0] _ _ _ (fun _ => True) (fun _ => False) rfl rfl ?aO ?aR (fun _ _ h => h) (fun _ h => h.elim) ?aF ?aB ?aS ?aL ?_; (case aR => exact ((Kd.R_reads' HO2.out).2.2)); (case aB => exact (by repeat (first | (with_reducible first | exact HB.out | apply below_alloc | apply pw_below_drewN | apply below_drew1) | exact HB.out))); (case aF => exact (fun _ _ => trivial)); (case aO => exact HO1.out); (case aS => exact (below_size (by repeat (first | (with_reducible first | exact HB.out | apply below_alloc | apply pw_below_drewN | apply below_drew1) | exact HB.out)))); (case aL => have := HX.out; simp only [List.length_cons, List.length_nil]; omega); intro v3 w3 ho hb hg hat; have n0_ := Aside0.mk (hb); have n1_ := Aside0.mk (ho); clear HB; clear HO1; have HB := n0_; have HO3 := n1_; clear n0_ n1_; clear ho hb hg hat; obtain ⟨A3, c3, e3⟩ := Kd.R_slice HO3.out; subst e3))
  have hW3 := below_size HB.out
  obtain ⟨ys, hys⟩ : ∃ ys : List Int, ys = xs ++ [0, 0, 0, 0] := ⟨_, rfl⟩
  have HYS := Aside0.mk hys
  have hn3 : xs.length + 4 = ys.length := by rw [hys]; simp
  rw [← hys] at HO3
  rw [show ((xs.length : Int) + 4) = ((xs.length + 4 : Nat) : Int) by omega, hn3]
  clear hys
  obtain ⟨inner, hown⟩ := Kd.R_own HO3.out
  have hg3 : ∃ g, A3 = some ⟨g, 0, none⟩ ∧ W.heap.size ≤ g := by
    rcases hown.2 with ⟨e, h0⟩ | ⟨g, cap, cur, e, hg, _⟩
    · omega
    · injection e with e1 e2 e3
      exact ⟨g, e1, hg⟩
  clear hown
  obtain ⟨g, rfl, hg⟩ := hg3
  have hcells : ∀ j : Nat, j < ys.length → w3.cell? ⟨g, j, none⟩ = some (.int .u8 (ys[j]?.getD 0)) := fun j hj => by
    have := (Kd.R_cell (0 : Int) HO3.out (j : Int) (by omega) (by omega)).1
    simpa [rdOf, List.getD] using this
  have hTg : ¬ T g := fun h => by have := HT.out g h; omega
  have h03 : J [] w3 := HJ.out [] W w3 none H0.out (grown_of_below HB.out none) (by simp)
  have HCE := Aside0.mk hcells
  clear hcells HO3 HO2
  have H03 := Aside0.mk h03
  clear h03
  have hlen : ys.length ≤ 1000000004 := by have := HX.out; omega
  clear hn3
  gi_wp2
  gi_loopw [11] (fun i wr => ∃ k : Nat, k ≤ ys.length ∧ i = .int .i64 k ∧ J (bitsTo xs k) wr ∧ KeepCells T w3 wr)
    (fun i _ => ys.length - (intOf i).toNat)
  case atStart => exact ⟨0, Nat.zero_le _, rfl, by simpa [bitsTo] using H03.out, KeepCells.refl _ _⟩
  case round =>
    obtain ⟨k, hk, rfl, hJs, hnx⟩ := hrel
    by_cases hlt : k < ys.length
    · have hcx : wr.cell? ⟨g, k, none⟩ = some (.int .u8 (ys[k]?.getD 0)) := hnx.cell (HCE.out k hlt) hTg
      gi_wp2
      rename_i hK2
      obtain ⟨b, hb⟩ : ∃ b : Int, ys[k] = b := ⟨_, rfl⟩
      rw [hb]
      have hbk : (xs ++ [0, 0, 0, 0])[k]? = some b := by rw [← HYS.out, ← hb]; simp [hlt]
      have HBK := Aside0.mk (bitsTo_succ xs k b hbk)
      have HLN := Aside0.mk (bitsTo_len xs k b hbk)
      clear hbk hb hcx
      have HJS := Aside0.mk hJs
      have HNX := Aside0.mk hnx
      clear hJs hnx
      obtain ⟨JJ, hJJ⟩ : ∃ JJ : Act → World → Prop, JJ = fun a' w' => ∃ (m : Nat) (v15 v16 v17 v18 v19 v20 v21 v22 v23 v24 v25 : Value), m < 8 ∧ a' = { tmps := #[.func (.yield l) #[] #[], .pointer (some ⟨Bs, 0, none⟩), undef, undef, .int .u8 b, .int .u8 ((128 / 2 ^ m : Nat) : Int), .slice A xs.length c, v1, .slice A2 4 c2, .slice (some ⟨g, 0, none⟩) ys.length c3, .int .i64 (ys.length : Int), .int .i64 (k : Int), .bool true, .pointer (some ⟨g, k, none⟩), .int .u8 b, v15, v16, v17, v18, v19, v20, v21, v22, v23, v24, v25, u26], defers := [] } ∧
          J (bitsTo xs k ++ (ats.take m).map (bitOf b)) w' ∧ KeepCells T w3 w' := ⟨_, rfl⟩
      have HJJ := Aside0.mk hJJ
      clear hJJ
      obtain ⟨mu, hmu⟩ : ∃ mu : Act → World → Nat, mu = fun a' _ => (intOf (a'.tmps.getD 5 undef)).toNat := ⟨_, rfl⟩
      have HMU := Aside0.mk hmu
      clear hmu
      refine wpIn_scope_jumps 0 JJ mu rfl ?first ?pass
      case first =>
        gi_wp2
        refine wpIn_label ?_
        obtain ⟨fn, tmps, assign, body, hy, hR⟩ := HY.out (bitsTo xs k) (Go.bits .and .u8 b 128 != 0) wr HJS.out (by have := HLN.out; omega)
        gi_wp2
        refine hR.mono ?_
        rintro e W3 (⟨rfl, hJ3, hk3⟩ | ⟨rfl, hJx3⟩)
        · gi_wp2
          refine wpIn_goto ?_
          refine ⟨rfl, ?_⟩
          rw [HJJ.out]
          refine ⟨1, _, _, _, _, _, _, _, _, _, _, _, by omega, rfl, hJ3, HNX.out.t hk3⟩
        · gi_wp2
          rw [jump_block_ret]
          change bodyPost Try.prog Try.f25 (fun e W' => (∃ v, e = Ending.returned v) ∧ ((∃ ys, ys = bitsOf xs ∧ J ys W') ∨ ∃ pre, True ∧ Jx pre W')) .ret _ _
          refine bodyPost_ret (results_none rfl _ _ _) rfl ?_
          exact ⟨⟨_, rfl⟩, .inr ⟨_, trivial, hJx3⟩⟩
      case pass =>
        intro a' w' hj
        rw [HJJ.out] at hj
        obtain ⟨m, v15, v16, v17, v18, v19, v20, v21, v22, v23, v24, v25, hm, rfl, hJ', hk'⟩ := hj
        have HJ' := Aside0.mk hJ'
        have HK' := Aside0.mk hk'
        clear hJ' hk'
        have hm8 : m = 0 ∨ m = 1 ∨ m = 2 ∨ m = 3 ∨ m = 4 ∨ m = 5 ∨ m = 6 ∨ m = 7 := by omega
        clear hm
        rcases hm8 with rfl | rfl | rfl | rfl | rfl | rfl | rfl | rfl
        case inr.inr.inr.inr.inr.inr.inr =>
          obtain ⟨fn, tmps, assign, body, hy, hR⟩ := HY.out _ (Go.bits .and .u8 b 1 != 0) w' HJ'.out (by have := HLN.out; simp [ats]; omega)
          gi_wp2
          refine hR.mono ?_
          rintro e W3 (⟨rfl, hJ3, hk3⟩ | ⟨rfl, hJx3⟩)
          · gi_wp2
            rw [jump_block_normal]
            refine hK2 _ _ ?_
            gi_wp2
            go_roundw
            case rel => exact ⟨k + 1, by omega, by simp, by rw [HBK.out, byteBits]; simpa [ats, bitOf] using hJ3, HK'.out.t hk3⟩
            case measure => simp [intOf]; omega
          · gi_wp2
            rw [jump_block_ret]
            change bodyPost Try.prog Try.f25 (fun e W' => (∃ v, e = Ending.returned v) ∧ ((∃ ys, ys = bitsOf xs ∧ J ys W') ∨ ∃ pre, True ∧ Jx pre W')) .ret _ _
            refine bodyPost_ret (results_none rfl _ _ _) rfl ?_
            exact ⟨⟨_, rfl⟩, .inr ⟨_, trivial, hJx3⟩⟩
        case inl =>
          obtain ⟨fn, tmps, assign, body, hy, hR⟩ := HY.out _ (Go.bits .and .u8 b 128 != 0) w' HJ'.out (by have := HLN.out; simp [ats]; omega)
          gi_wp2
          refine hR.mono ?_
          rintro e W3 (⟨rfl, hJ3, hk3⟩ | ⟨rfl, hJx3⟩)
          · gi_wp2
            refine wpIn_goto ?_
            refine ⟨rfl, ?_, ?_⟩
            · rw [HJJ.out]
              exact ⟨1, _, _, _, _, _, _, _, _, _, _, _, by omega, rfl, by simpa [ats, bitOf] using hJ3, HK'.out.t hk3⟩
            · rw [HMU.out]; simp [intOf]
          · gi_wp2
            rw [jump_block_ret]
            change bodyPost Try.prog Try.f25 (fun e W' => (∃ v, e = Ending.returned v) ∧ ((∃ ys, ys = bitsOf xs ∧ J ys W') ∨ ∃ pre, True ∧ Jx pre W')) .ret _ _
            refine bodyPost_ret (results_none rfl _ _ _) rfl ?_
            exact ⟨⟨_, rfl⟩, .inr ⟨_, trivial, hJx3⟩⟩
        case inr.inl =>
          obtain ⟨fn, tmps, assign, body, hy, hR⟩ := HY.out _ (Go.bits .and .u8 b 64 != 0) w' HJ'.out (by have := HLN.out; simp [ats]; omega)
          gi_wp2
          refine hR.mono ?_
          rintro e W3 (⟨rfl, hJ3, hk3⟩ | ⟨rfl, hJx3⟩)
          · gi_wp2
            refine wpIn_goto ?_
            refine ⟨rfl, ?_, ?_⟩
            · rw [HJJ.out]
              exact ⟨2, _, _, _, _, _, _, _, _, _, _, _, by omega, rfl, by simpa [ats, bitOf] using hJ3, HK'.out.t hk3⟩
            · rw [HMU.out]; simp [intOf]
          · gi_wp2
            rw [jump_block_ret]
            change bodyPost Try.prog Try.f25 (fun e W' => (∃ v, e = Ending.returned v) ∧ ((∃ ys, ys = bitsOf xs ∧ J ys W') ∨ ∃ pre, True ∧ Jx pre W')) .ret _ _
            refine bodyPost_ret (results_none rfl _ _ _) rfl ?_
            exact ⟨⟨_, rfl⟩, .inr ⟨_, trivial, hJx3⟩⟩
        case inr.inr.inl =>
          obtain ⟨fn, tmps, assign, body, hy, hR⟩ := HY.out _ (Go.bits .and .u8 b 32 != 0) w' HJ'.out (by have := HLN.out; simp [ats]; omega)
          gi_wp2
          refine hR.mono ?_
          rintro e W3 (⟨rfl, hJ3, hk3⟩ | ⟨rfl, hJx3⟩)
          · gi_wp2
            refine wpIn_goto ?_
            refine ⟨rfl, ?_, ?_⟩
            · rw [HJJ.out]
              exact ⟨3, _, _, _, _, _, _, _, _, _, _, _, by omega, rfl, by simpa [ats, bitOf] using hJ3, HK'.out.t hk3⟩
            · rw [HMU.out]; simp [intOf]
          · gi_wp2
            rw [jump_block_ret]
            change bodyPost Try.prog Try.f25 (fun e W' => (∃ v, e = Ending.returned v) ∧ ((∃ ys, ys = bitsOf xs ∧ J ys W') ∨ ∃ pre, True ∧ Jx pre W')) .ret _ _
            refine bodyPost_ret (results_none rfl _ _ _) rfl ?_
            exact ⟨⟨_, rfl⟩, .inr ⟨_, trivial, hJx3⟩⟩
        case inr.inr.inr.inl =>
          obtain ⟨fn, tmps, assign, body, hy, hR⟩ := HY.out _ (Go.bits .and .u8 b 16 != 0) w' HJ'.out (by have := HLN.out; simp [ats]; omega)
          gi_wp2
          refine hR.mono ?_
          rintro e W3 (⟨rfl, hJ3, hk3⟩ | ⟨rfl, hJx3⟩)
          · gi_wp2
            refine wpIn_goto ?_
            refine ⟨rfl, ?_, ?_⟩
            · rw [HJJ.out]
              exact ⟨4, _, _, _, _, _, _, _, _, _, _, _, by omega, rfl, by simpa [ats, bitOf] using hJ3, HK'.out.t hk3⟩
            · rw [HMU.out]; simp [intOf]
          · gi_wp2
            rw [jump_block_ret]
            change bodyPost Try.prog Try.f25 (fun e W' => (∃ v, e = Ending.returned v) ∧ ((∃ ys, ys = bitsOf xs ∧ J ys W') ∨ ∃ pre, True ∧ Jx pre W')) .ret _ _
            refine bodyPost_ret (results_none rfl _ _ _) rfl ?_
            exact ⟨⟨_, rfl⟩, .inr ⟨_, trivial, hJx3⟩⟩
        case inr.inr.inr.inr.inl =>
          obtain ⟨fn, tmps, assign, body, hy, hR⟩ := HY.out _ (Go.bits .and .u8 b 8 != 0) w' HJ'.out (by have := HLN.out; simp [ats]; omega)
          gi_wp2
          refine hR.mono ?_
          rintro e W3 (⟨rfl, hJ3, hk3⟩ | ⟨rfl, hJx3⟩)
          · gi_wp2
            refine wpIn_goto ?_
            refine ⟨rfl, ?_, ?_⟩
            · rw [HJJ.out]
              exact ⟨5, _, _, _, _, _, _, _, _, _, _, _, by omega, rfl, by simpa [ats, bitOf] using hJ3, HK'.out.t hk3⟩
            · rw [HMU.out]; simp [intOf]
          · gi_wp2
            rw [jump_block_ret]
            change bodyPost Try.prog Try.f25 (fun e W' => (∃ v, e = Ending.returned v) ∧ ((∃ ys, ys = bitsOf xs ∧ J ys W') ∨ ∃ pre, True ∧ Jx pre W')) .ret _ _
            refine bodyPost_ret (results_none rfl _ _ _) rfl ?_
            exact ⟨⟨_, rfl⟩, .inr ⟨_, trivial, hJx3⟩⟩
        case inr.inr.inr.inr.inr.inl =>
          obtain ⟨fn, tmps, assign, body, hy, hR⟩ := HY.out _ (Go.bits .and .u8 b 4 != 0) w' HJ'.out (by have := HLN.out; simp [ats]; omega)
          gi_wp2
          refine hR.mono ?_
          rintro e W3 (⟨rfl, hJ3, hk3⟩ | ⟨rfl, hJx3⟩)
          · gi_wp2
            refine wpIn_goto ?_
            refine ⟨rfl, ?_, ?_⟩
            · rw [HJJ.out]
              exact ⟨6, _, _, _, _, _, _, _, _, _, _, _, by omega, rfl, by simpa [ats, bitOf] using hJ3, HK'.out.t hk3⟩
            · rw [HMU.out]; simp [intOf]
          · gi_wp2
            rw [jump_block_ret]
            change bodyPost Try.prog Try.f25 (fun e W' => (∃ v, e = Ending.returned v) ∧ ((∃ ys, ys = bitsOf xs ∧ J ys W') ∨ ∃ pre, True ∧ Jx pre W')) .ret _ _
            refine bodyPost_ret (results_none rfl _ _ _) rfl ?_
            exact ⟨⟨_, rfl⟩, .inr ⟨_, trivial, hJx3⟩⟩
        case inr.inr.inr.inr.inr.inr.inl =>
          obtain ⟨fn, tmps, assign, body, hy, hR⟩ := HY.out _ (Go.bits .and .u8 b 2 != 0) w' HJ'.out (by have := HLN.out; simp [ats]; omega)
          gi_wp2
          refine hR.mono ?_
          rintro e W3 (⟨rfl, hJ3, hk3⟩ | ⟨rfl, hJx3⟩)
          · gi_wp2
            refine wpIn_goto ?_
            refine ⟨rfl, ?_, ?_⟩
            · rw [HJJ.out]
              exact ⟨7, _, _, _, _, _, _, _, _, _, _, _, by omega, rfl, by simpa [ats, bitOf] using hJ3, HK'.out.t hk3⟩
            · rw [HMU.out]; simp [intOf]
          · gi_wp2
            rw [jump_block_ret]
            change bodyPost Try.prog Try.f25 (fun e W' => (∃ v, e = Ending.returned v) ∧ ((∃ ys, ys = bitsOf xs ∧ J ys W') ∨ ∃ pre, True ∧ Jx pre W')) .ret _ _
            refine bodyPost_ret (results_none rfl _ _ _) rfl ?_
            exact ⟨⟨_, rfl⟩, .inr ⟨_, trivial, hJx3⟩⟩
    · obtain rfl : k = ys.length := by omega
      gi_wp2
      go_end0
      exact ⟨⟨_, rfl⟩, .inl ⟨_, rfl, by have := hJs; rw [bitsTo, HYS.out, List.take_length] at this; exact this⟩⟩

set_option maxHeartbeats 1000000 in
theorem bits_any (F : Fence) (n : Nat) (h24 : F.fn 24) (hro : F.round = none) (A : Option Addr) (m c : Nat) (w : World) :
    CallsIn F n Try.prog 24 #[.slice A m c] w fun e w' => e = .returned (.func (.func 25) #[] #[.pointer (some ⟨w.heap.size, 0, none⟩)]) ∧ w' = w.alloc (.cells #[.slice A m c] 23) := by
  refine callsIn_of_wp Try.func24 rfl h24 ?_ hro
  simp only [Try.ntmps24, List.size_toArray, List.length_cons, List.length_nil, Nat.reduceAdd, Nat.reduceSub, Array.replicate_succ, Array.replicate_zero, List.push_toArray, List.append_toArray, List.nil_append, List.cons_append]
  gi_wp2
  go_ret
  exact ⟨rfl, rfl⟩

theorem bits_stops (n : Nat) (hn : 1 ≤ n) (Bs : Nat) (T : Nat → Prop) (A : Option Addr) (c : Nat) (xs : List Int) (hx : xs.length ≤ 1000000000) (w : World) (hT : ∀ k, T k → k < w.heap.size) (hBs : Bs < w.heap.size) (hTB : ¬ T Bs)
    (hc : w.cell? ⟨Bs, 0, none⟩ = some (.slice A xs.length c)) (hr : Kd.C (Kd.int .u8) w A xs.length xs) (hl : xs.length ≤ c) :
    SeqStopsK Fence.wide n Try.prog 25 #[.pointer (some ⟨Bs, 0, none⟩)] (fun x : Bool => #[Value.bool x]) (KeepCells T) (fun ys => ys = bitsOf xs) (fun _ => True) (bitsOf xs).length w := fun l J Jx W hW hJ _ hY h0 => by
  have hc' := (hW.cell (p := ⟨Bs, 0, none⟩) hBs).trans hc
  exact bits1_any n hn l Bs T A c xs hx J Jx hY W hJ (fun k hk => Nat.lt_of_lt_of_le (hT k hk) hW.size) hc' hTB (Kd.C_below hr hW) hl h0

/-- One bit on. -/
def stepI (s : Int) (x : Bool) : Int := (frame_Step.f s x).getD 0
theorem step_some (s : Int) (x : Bool) : frame_Step.f s x = some (stepI s x) := by
  unfold stepI frame_Step.f
  cases x <;> rfl
/-- The sum of bytes. -/
def sumB (p : List Bool) : Int := p.foldl stepI 4294967295
theorem sumB_snoc (p : List Bool) (x : Bool) : sumB (p ++ [x]) = stepI (sumB p) x := by simp [sumB]
def sumI (l : List Int) : Int := sumB (bitsOf l)
def frame_Sum.f (l0 : List Int) : Option Int := if l0.length ≤ 1000000000 then some (sumI l0) else none

attribute [local go_sem] Oper.semAt_some
set_option maxRecDepth 100000 in
set_option maxHeartbeats 4000000 in
theorem frame_Sum.calls (A0 : Option Addr) (c0 : Nat) (l0 : List Int) (r : Int) (w : World) (hr0 : Kd.C (Kd.int .u8) w A0 l0.length l0) (hc0 : l0.length ≤ c0) (h : frame_Sum.f l0 = some r) :
    Calls Try.prog 16 #[.slice A0 l0.length c0] w fun e w' => e = .returned (.int .u32 r) ∧ Below w.heap.size w w' := by
  unfold frame_Sum.f at h
  by_cases hl : l0.length ≤ 1000000000
  · rw [if_pos hl] at h
    obtain rfl := Option.some.inj h
    have HL := Aside0.mk hl
    have HR := Aside0.mk hr0
    have HC := Aside0.mk hc0
    clear h hl hr0 hc0
    refine (callsIn_wide (n := 3)).1 ?_
    refine callsIn_of_wp_marks Try.func16 rfl trivial ?_ rfl
    simp only [Try.ntmps16, List.size_toArray, List.length_cons, List.length_nil, Nat.reduceAdd, Nat.reduceSub, Array.replicate_succ, Array.replicate_zero, List.push_toArray, List.append_toArray, List.nil_append, List.cons_append]
    gi_wp2_with (refine ⟨trivial, ?_⟩; gi_at_call 24; refine (bits_any Fence.wide _ trivial rfl _ _ _ _).mono ?_; rintro e w' ⟨rfl, rfl⟩)
    have bA := Boxed.new w 22 (.int .u32 4294967295)
    have bS := Boxed.new (w.alloc (.cells #[.int .u32 4294967295] 22)) 23 (.slice A0 l0.length c0)
    rw [World.size_alloc] at bS
    have hB0 : Below w.heap.size w ((w.alloc (.cells #[.int .u32 4294967295] 22)).alloc (.cells #[.slice A0 l0.length c0] 23)) := ((Below.refl _ w).alloc (Nat.le_refl _) _).alloc (by simp) _
    refine wpIn_rangeFunc_ownG rfl (by omega) (gf := 25) (lb := #[.pointer (some ⟨w.heap.size + 1, 0, none⟩)]) rfl trivial (enters_of Try.func25 (by kernel_rfl) rfl)
      (bits_stops _ (by omega) (w.heap.size + 1) (· = w.heap.size) A0 c0 l0 HL.out _ (by rintro k rfl; simp; omega) (by simp) (by omega) bS.cell (Kd.C_below HR.out hB0) HC.out) KeepCells.t (fun W l o o' _ h hc _ => KeepCells.b W l o o' h hc) (Below.refl _ _) (fun _ => rfl)
      (fun pre W => (W.cell? ⟨w.heap.size, 0, none⟩ = some (.int .u32 (sumB pre)) ∧ W.frozen? ⟨w.heap.size, 0, none⟩ = false) ∧ Below w.heap.size w W)
      (fun _ _ _ => False)
      (OwnFrom.and (Own.from (fun s A B row hs hg hr => ⟨cell_kept hs.1 hg hr, (frozen_kept hs.1 hg hr).trans hs.2⟩) _) (ownFrom_below (Nat.le_refl _) (by simp; omega)))
      (fun _ _ _ _ _ hs _ _ => hs)
      ⟨⟨(bA.alloc _).cell, (bA.alloc _).frozen⟩, hB0⟩
      (fun x => { tmps := #[.slice A0 l0.length c0, undef, .int .u32 0, .pointer (some ⟨w.heap.size, 0, none⟩), .bool x, .slice A0 l0.length c0, .func (.func 25) #[] #[.pointer (some ⟨w.heap.size + 1, 0, none⟩)], .bool x, undef, undef, undef, undef], defers := [] }) ?assign ?body ?done ?stop
    case assign =>
      intro l x W K hK
      gi_wp2
      exact hK
    case body =>
      rintro l pre x W ⟨⟨hc, hf⟩, hB⟩ _
      have HS := Aside0.mk (step_some (sumB pre) x)
      gi_wp2_with (refine ⟨trivial, ?_⟩; gi_at_call 14; refine (CallsIn.inRound l (callsIn_wide.2 (frame_Step.calls _ x _ _ HS.out))).mono ?_; rintro e w' ⟨rfl, ⟨nd, rfl⟩⟩)
      refine ⟨(KeepsOthers.trans (⟨Nat.le_refl _, fun _ _ h _ => h⟩ : KeepsOthers W (W.drewN nd)) (KeepsOthers.setCell _ _ _)).from _, ?_, ⟨by rw [sumB_snoc]; exact World.cell?_setCell_same' _ _ _ (by rw [World.cell?_drewN, hc]; rfl), by rw [World.frozen?_setCell]; exact hf⟩, (pw_below_drewN hB nd).setCell (p := ⟨w.heap.size, 0, none⟩) (Nat.le_refl _) _⟩
      exact KeepCells.setCell (W.drewN nd) _ _ _ rfl
    case done =>
      rintro D ys W hD rfl ⟨⟨hc, _⟩, hB⟩ hK
      gi_wp2
      refine ⟨by simp, .inl ⟨_, _, rfl, run_takeDeferred hK, ?_⟩⟩
      exact ⟨_, results_tmp rfl _ _ _, rfl, hB.trans (belowK_b (w := w) (Nat.le_refl _) W D _ _ (by simp at hD; omega) hK rfl rfl)⟩
    case stop =>
      rintro D c pre W _ _ h _
      exact h.elim
  · rw [if_neg hl] at h
    exact absurd h (by simp)


end Go.Proofs.Ytnehegnnpfdfbaa.G
