/- What calls of the program's functions answer: contracts, printed by this session's program (wip/tools/gprint.py) or told by hand. -/
import Derived.Test.YtjnkgccabgiocaaG0
import Derived.Test.YtjnkgccabgiocaaG1
import Derived.RangeFuncNested
import Derived.RangeFuncBound
import Derived.RangeFuncCalls
import Derived.RangeFuncLeaves
import Derived.Shelf.Abstract
import Derived.Shelf.RegionOpen
import Derived.WalkKit
import Derived.OwnWalkIn
import Derived.TacticsInMore
import Derived.LoopNIn
import Derived.LoopIn
import Derived.RangeFuncBox
import Derived.ScopeJumps
import Derived.WalkMore
namespace Go.Proofs.Ytjnkgccabgiocaa.G
open Go.RowKit Go.Proofs.YtjnkgccabgiocaaW.PrintWords Go.Proofs.YtjnkgccabgiocaaW.PrintLast Go.Proofs.YtjnkgccabgiocaaW.PrintMore
attribute [local go_sem] max2_int min2_int max_two min_two max_three min_three max_four min_four   -- for this text's walks alone
set_option linter.unusedVariables false
set_option linter.unusedSimpArgs false

/-! ### mix_Go: function 17 -/
open Go.Shelf
attribute [local go_sem] Oper.semAt_some

/-- What has come when k rounds are over: f 0, .., f (k - 1). -/
def upto {α : Type} (f : Nat → α) (k : Nat) : List α := (List.range k).map f
theorem upto_succ {α : Type} (f : Nat → α) (k : Nat) : upto f (k + 1) = upto f k ++ [f k] := by simp [upto, List.range_succ]
theorem upto_length {α : Type} (f : Nat → α) (k : Nat) : (upto f k).length = k := by simp [upto]

/-- The blocks of S lie as they lay. -/
def KeepOn (S : Nat → Prop) (W W' : World) : Prop := ∀ k, S k → W'.heap[k]? = W.heap[k]?
theorem KeepOn.refl (S : Nat → Prop) (W : World) : KeepOn S W W := fun _ _ => rfl
theorem KeepOn.t {S : Nat → Prop} {A B C : World} (h : KeepOn S A B) (k : KeepOn S B C) : KeepOn S A C := fun i hi => (k i hi).trans (h i hi)
theorem KeepOn.b {S : Nat → Prop} {w : World} (hS : ∀ k, S k → k < w.heap.size) (W : World) (l : Nat) (o o' : Obj) (hl : w.heap.size ≤ l) (_ : W.heap[l]? = some o) (_ : o.isCells = false) (_ : o.isWalk = false) : KeepOn S W (W.putObj l o') :=
  fun k hk => World.putObj_heap_other (by have := hS k hk; omega)
theorem KeepOn.setCell {S : Nat → Prop} (W : World) (b j : Nat) (v : Value) (hS : ∀ k, S k → k ≠ b) : KeepOn S W (W.setCell ⟨b, j, none⟩ v) :=
  fun k hk => Below.heap_setCell W ⟨b, j, none⟩ v k (hS k hk)
theorem KeepOn.cell {S : Nat → Prop} {W W' : World} (h : KeepOn S W W') {a : Addr} (ha : S a.block) : W'.cell? a = W.cell? a := World.cell?_of_block (h _ ha)

set_option maxRecDepth 100000 in
set_option maxHeartbeats 2000000 in
theorem all1_in (F : Fence) (n : Nat) (h24 : F.fn 24) (hro : F.round = none) (hn : 1 ≤ n) (l Bs : Nat) (s : ByteArray) (hs : s.size ≤ 9223372036854775807) (J Jx : List Int → World → Prop)
    (hY : ∀ pre x W, J pre W → pre.length < s.size → YieldAt F (n - 1) Try.prog l #[.int .u8 x] W fun e W' =>
      (e = .returned (.bool true) ∧ J (pre ++ [x]) W' ∧ KeepOn (· = Bs) W W') ∨ (e = .returned (.bool false) ∧ Jx (pre ++ [x]) W'))
    (W : World) (hBs : W.cell? ⟨Bs, 0, none⟩ = some (.string s)) (h0 : J [] W) :
    CallsIn F n Try.prog 24 #[.func (.yield l) #[] #[], .pointer (some ⟨Bs, 0, none⟩)] W fun e W' => (∃ v, e = .returned v) ∧
      ((∃ ys, ys = upto (fun j => bt s (j : Int)) s.size ∧ J ys W') ∨ (∃ pre, (∃ k, k ≤ s.size ∧ pre = upto (fun j => bt s (j : Int)) k) ∧ Jx pre W')) := by
  refine callsIn_of_wp Try.func24 rfl h24 ?_ hro
  simp only [Try.ntmps24, List.size_toArray, List.length_cons, List.length_nil, Nat.reduceAdd, Nat.reduceSub, Array.replicate_succ, Array.replicate_zero, List.push_toArray, List.append_toArray, List.nil_append, List.cons_append]
  gi_wp2
  gi_loopw [3] (fun i wr => ∃ k : Nat, k ≤ s.size ∧ i = .int .i64 k ∧ J (upto (fun j => bt s (j : Int)) k) wr ∧ KeepOn (· = Bs) W wr)
    (fun i _ => s.size - (intOf i).toNat)
  case atStart => exact ⟨0, Nat.zero_le _, rfl, h0, KeepOn.refl _ _⟩
  case round =>
    obtain ⟨k, hk, rfl, hJs, hnx⟩ := hrel
    have hcx : wr.cell? ⟨Bs, 0, none⟩ = some (.string s) := (hnx.cell rfl).trans hBs
    by_cases hlt : k < s.size
    · obtain ⟨fn, tmps, assign, body, hy, hR⟩ := hY _ (bt s (k : Int)) wr hJs (by rw [upto_length]; exact hlt)
      have hx : ∀ h : k < s.size, ((s[k]'h).toNat : Int) = bt s (k : Int) := fun h => by simp [bt, h]
      gi_wp2
      refine hR.mono ?_
      rintro e W3 (⟨rfl, hJ3, hk3⟩ | ⟨rfl, hJx3⟩)
      · gi_wp2
        go_roundw
        case rel => exact ⟨k + 1, by omega, by simp, by rw [upto_succ]; exact hJ3, hnx.t hk3⟩
        case measure => simp [intOf]; omega
      · gi_wp2
        go_end0
        exact ⟨⟨_, rfl⟩, .inr ⟨_, ⟨k + 1, by omega, (upto_succ _ _).symm⟩, hJx3⟩⟩
    · obtain rfl : k = s.size := by omega
      gi_wp2
      refine ⟨fun _ h => (by cases h), ?_⟩
      gi_wp2
      go_end0
      exact ⟨⟨_, rfl⟩, .inl ⟨_, rfl, hJs⟩⟩

set_option maxHeartbeats 1000000 in
theorem all_in (F : Fence) (n : Nat) (h23 : F.fn 23) (hro : F.round = none) (s : ByteArray) (w : World) :
    CallsIn F n Try.prog 23 #[.string s] w fun e w' => e = .returned (.func (.func 24) #[] #[.pointer (some ⟨w.heap.size, 0, none⟩)]) ∧ w' = w.alloc (.cells #[.string s] 9) := by
  refine callsIn_of_wp Try.func23 rfl h23 ?_ hro
  simp only [Try.ntmps23, List.size_toArray, List.length_cons, List.length_nil, Nat.reduceAdd, Nat.reduceSub, Array.replicate_succ, Array.replicate_zero, List.push_toArray, List.append_toArray, List.nil_append, List.cons_append]
  gi_wp2
  go_ret
  exact ⟨rfl, rfl⟩

theorem all_stops (F : Fence) (n : Nat) (h24 : F.fn 24) (hro : F.round = none) (hn : 1 ≤ n) (Bs : Nat) (s : ByteArray) (hs : s.size ≤ 9223372036854775807) (w : World) (hBs : Bs < w.heap.size)
    (hc : w.cell? ⟨Bs, 0, none⟩ = some (.string s)) :
    SeqStopsK F n Try.prog 24 #[.pointer (some ⟨Bs, 0, none⟩)] (fun x : Int => #[Value.int .u8 x]) (KeepOn (· = Bs)) (fun ys => ys = upto (fun j => bt s (j : Int)) s.size)
      (fun pre => ∃ k, k ≤ s.size ∧ pre = upto (fun j => bt s (j : Int)) k) s.size w := fun l J Jx W hW _ _ hY h0 => by
  have hc' := (hW.cell (p := ⟨Bs, 0, none⟩) hBs).trans hc
  exact all1_in F n h24 hro hn l Bs s hs J Jx hY W hc' h0

/-- One byte on. -/
def nextI (a b : Int) : Int := wrap64 (IntKind.u16.wrap ((IntKind.u16.wrap ((IntKind.u16.wrap ((IntKind.u16.wrap a) * 40503)) + (IntKind.u16.wrap b))) + 1))
def goI (a : Int) (l : List Int) : Int := l.foldl nextI (wrap64 (IntKind.u16.wrap a))
theorem goI_snoc (a : Int) (l : List Int) (x : Int) : goI a (l ++ [x]) = nextI (goI a l) x := by simp [goI]

set_option maxRecDepth 100000 in
set_option maxHeartbeats 2000000 in
theorem Go_any (a : Int) (s : ByteArray) (hs : s.size ≤ 9223372036854775807) (w : World) :
    Calls Try.prog 17 #[.int .i64 a, .string s] w fun e W' => e = .returned (.int .i64 (goI a (upto (fun j => bt s (j : Int)) s.size))) ∧ Below w.heap.size w W' := by
  refine (callsIn_wide (n := 3)).1 ?_
  refine callsIn_of_wp_marks Try.func17 rfl trivial ?_ rfl
  simp only [Try.ntmps17, List.size_toArray, List.length_cons, List.length_nil, Nat.reduceAdd, Nat.reduceSub, Array.replicate_succ, Array.replicate_zero, List.push_toArray, List.append_toArray, List.nil_append, List.cons_append]
  gi_wp2_with (refine ⟨trivial, ?_⟩; gi_at_call 23; refine (all_in Fence.wide _ trivial rfl _ _).mono ?_; rintro e w' ⟨rfl, rfl⟩)
  have bA := Boxed.new w 3 (.int .i64 (wrap64 (IntKind.u16.wrap a)))
  have bS := Boxed.new (w.alloc (.cells #[.int .i64 (wrap64 (IntKind.u16.wrap a))] 3)) 9 (.string s)
  rw [World.size_alloc] at bS
  have hB0 : Below w.heap.size w ((w.alloc (.cells #[.int .i64 (wrap64 (IntKind.u16.wrap a))] 3)).alloc (.cells #[.string s] 9)) := ((Below.refl _ w).alloc (Nat.le_refl _) _).alloc (by simp) _
  refine wpIn_rangeFunc_ownG rfl (by omega) (gf := 24) (lb := #[.pointer (some ⟨w.heap.size + 1, 0, none⟩)]) rfl trivial (enters_of Try.func24 (by kernel_rfl) rfl)
    (all_stops Fence.wide _ trivial rfl (by omega) (w.heap.size + 1) s hs _ (by simp) bS.cell) KeepOn.t (KeepOn.b (by rintro k rfl; simp)) (Below.refl _ _) (fun _ => rfl)
    (fun pre W => (W.cell? ⟨w.heap.size, 0, none⟩ = some (.int .i64 (goI a pre)) ∧ W.frozen? ⟨w.heap.size, 0, none⟩ = false) ∧ Below w.heap.size w W)
    (fun _ _ _ => False)
    (OwnFrom.and (Own.from (fun s A B row hs hg hr => ⟨cell_kept hs.1 hg hr, (frozen_kept hs.1 hg hr).trans hs.2⟩) _) (ownFrom_below (Nat.le_refl _) (by simp; omega)))
    (fun _ _ _ _ _ hs _ _ => hs)
    ⟨⟨(bA.alloc _).cell, (bA.alloc _).frozen⟩, hB0⟩
    (fun x => { tmps := #[.int .i64 a, .string s, .pointer (some ⟨w.heap.size, 0, none⟩), undef, .int .i64 0, .int .u8 x, .int .i64 a, .int .u16 (IntKind.u16.wrap a), .int .i64 (wrap64 (IntKind.u16.wrap a)), .string s, .func (.func 24) #[] #[.pointer (some ⟨w.heap.size + 1, 0, none⟩)], .int .u8 x, undef, undef, undef, undef], defers := [] }) ?assign ?body ?done ?stop
  case assign =>
    intro l x W K hK
    gi_wp2
    exact hK
  case body =>
    rintro l pre x W ⟨⟨hc, hf⟩, hB⟩ _
    gi_wp2_with (refine ⟨trivial, ?_⟩; gi_at_call 13; refine (CallsIn.inRound l (callsIn_wide.2 (mix_Next.calls (goI a pre) x (nextI (goI a pre) x) _ rfl))).mono ?_; rintro e w' ⟨rfl, ⟨nd, rfl⟩⟩)
    refine ⟨(KeepsOthers.trans (⟨Nat.le_refl _, fun _ _ h _ => h⟩ : KeepsOthers W (W.drewN nd)) (KeepsOthers.setCell _ _ _)).from _, ?_, ⟨by rw [goI_snoc]; exact World.cell?_setCell_same' _ _ _ (by rw [World.cell?_drewN, hc]; rfl), by rw [World.frozen?_setCell]; exact hf⟩, (pw_below_drewN hB nd).setCell (p := ⟨w.heap.size, 0, none⟩) (Nat.le_refl _) _⟩
    exact KeepOn.setCell (W.drewN nd) _ _ _ (by rintro k rfl; omega)
  case done =>
    rintro D ys W hD rfl ⟨⟨hc, _⟩, hB⟩ hK
    gi_wp2
    refine ⟨by simp, .inl ⟨_, _, rfl, run_takeDeferred hK, ?_⟩⟩
    exact ⟨_, results_tmp rfl _ _ _, rfl, hB.trans (belowK_b (w := w) (Nat.le_refl _) W D _ _ (by simp at hD; omega) hK rfl rfl)⟩
  case stop =>
    rintro D c pre W _ _ h _
    exact h.elim

def mix_Go.f (a0 : Int) (a1 : ByteArray) : Option Int := if a1.size ≤ 9223372036854775807 then some (goI a0 (upto (fun j => bt a1 (j : Int)) a1.size)) else none
theorem mix_Go.calls (a0 : Int) (a1 : ByteArray) (r : Int) (w : World) (h : mix_Go.f a0 a1 = some r) :
    Calls Try.prog 17 #[.int .i64 a0, .string a1] w fun e w' => e = .returned (.int .i64 r) ∧ Below w.heap.size w w' := by
  unfold mix_Go.f at h
  by_cases hs : a1.size ≤ 9223372036854775807
  · rw [if_pos hs] at h
    obtain rfl := Option.some.inj h
    exact Go_any a0 a1 hs w
  · rw [if_neg hs] at h
    exact absurd h (by simp)



end Go.Proofs.Ytjnkgccabgiocaa.G
