/- What calls of the program's functions answer: contracts, printed by this session's program (wip/tools/gprint.py) or told by hand. -/
import Derived.Test.YtnaohcimmafhkaaG0
import Derived.Test.YtnaohcimmafhkaaG1
import Derived.RangeFuncNested
import Derived.RangeFuncBound
import Derived.RangeFuncCalls
import Derived.RangeFuncLeaves
import Derived.Shelf.Abstract
import Derived.Shelf.RegionOpen
import Derived.WalkKit
import Derived.OwnWalkIn
import Derived.TacticsInMore
import Derived.LoopNIn
import Derived.LoopIn
import Derived.RangeFuncBox
import Derived.ScopeJumps
import Derived.WalkMore
import Derived.WalkSpells
namespace Go.Proofs.Ytnaohcimmafhkaa.G
open Go.RowKit Go.Proofs.YtnaohcimmafhkaaW.PrintWords Go.Proofs.YtnaohcimmafhkaaW.PrintLast Go.Proofs.YtnaohcimmafhkaaW.PrintMore
attribute [local go_sem] max2_int min2_int max_two min_two max_three min_three max_four min_four   -- for this text's walks alone
set_option linter.unusedVariables false
set_option linter.unusedSimpArgs false

/-! ### num_Put: function 10 -/
open Go.Shelf
attribute [local go_sem] Oper.semAt_some

/-- A number's bytes, the lowest first. -/
def low (N : Nat) : List Int := if h : N = 0 then [] else ((N : Int) % 256) :: low (N / 256)
termination_by N
decreasing_by omega
theorem low_zero : low 0 = [] := by rw [low]; simp
theorem low_pos {N : Nat} (h : 0 < N) : low N = ((N : Int) % 256) :: low (N / 256) := by rw [low, dif_neg (by omega)]
theorem low_len : ∀ (k N : Nat), N < 256 ^ k → (low N).length ≤ k
  | 0, N, h => by obtain rfl : N = 0 := by simpa using h
                  rw [low_zero]; exact Nat.le_refl _
  | k + 1, N, h => by
    rcases Nat.eq_zero_or_pos N with rfl | hp
    · rw [low_zero]; simp
    · rw [low_pos hp, List.length_cons]
      have := low_len k (N / 256) (by rw [Nat.pow_succ] at h; omega)
      omega

set_option maxRecDepth 100000 in
set_option maxHeartbeats 2000000 in
theorem digits1_in (n : Nat) (hn : 1 ≤ n) (l Z N : Nat) (hN : N ≤ 1099511627776) (J : List Int → World → Prop) (hZ : ∀ s A v, J s A → J s (A.setCell ⟨Z, 0, none⟩ v))
    (hY : ∀ pre x W, J pre W → pre.length < (low N).length → YieldAt Fence.wide (n - 1) Try.prog l #[.int .u8 x] W fun e W' => e = .returned (.bool true) ∧ J (pre ++ [x]) W' ∧ W'.heap[Z]? = W.heap[Z]?)
    (W : World) (hB : Boxed W Z 3 (.int .i64 (N : Int))) (h0 : J [] W) :
    CallsIn Fence.wide n Try.prog 28 #[.func (.yield l) #[] #[], .pointer (some ⟨Z, 0, none⟩)] W fun e W' => (∃ v, e = .returned v) ∧ J (low N) W' := by
  refine callsIn_of_wp Try.func28 rfl trivial ?_ rfl
  simp only [Try.ntmps28, List.size_toArray, List.length_cons, List.length_nil, Nat.reduceAdd, Nat.reduceSub, Array.replicate_succ, Array.replicate_zero, List.push_toArray, List.append_toArray, List.nil_append, List.cons_append]
  gi_wp2
  gi_loopw [] (fun wr => ∃ (pre : List Int) (M : Nat), M ≤ 1099511627776 ∧ pre ++ low M = low N ∧ Boxed wr Z 3 (.int .i64 (M : Int)) ∧ J pre wr)
    (fun wr => (intOf ((wr.cell? ⟨Z, 0, none⟩).getD undef)).toNat)
  case atStart => exact ⟨[], N, hN, rfl, hB, h0⟩
  case round =>
    obtain ⟨pre, M, hM, hpre, hBx, hJ⟩ := hrel
    have hcx := hBx.cell
    have hfx := hBx.frozen
    rcases Nat.eq_zero_or_pos M with rfl | hp
    · gi_wp2
      go_end0
      exact ⟨⟨_, rfl⟩, by rw [low_zero, List.append_nil] at hpre; rw [← hpre]; exact hJ⟩
    · obtain ⟨fn, tmps, assign, body, hy, hR⟩ := hY pre ((M : Int) % 256) wr hJ (by rw [← hpre, low_pos hp]; simp)
      gi_wp2
      refine hR.mono ?_
      rintro e W3 ⟨rfl, hJ3, hk3⟩
      have hB3 : Boxed W3 Z 3 (.int .i64 (M : Int)) := hk3.trans hBx
      have hc3 := hB3.cell
      have hf3 := hB3.frozen
      clear hcx hfx
      gi_wp2
      go_roundw
      case rel => exact ⟨pre ++ [(M : Int) % 256], M / 256, by omega, by rw [List.append_assoc, ← hpre, low_pos hp]; rfl, hB3.set _, hZ _ _ _ hJ3⟩
      case measure => simp [(hB3.set _).cell, hBx.cell, intOf]; omega

/-- A range over an iterator that writes its own box Z and always goes to its end; the body always goes on. -/
theorem rangeFunc_Z {n : Nat} {P : Program} {g : Operand} {ps : Array Tmp} {assign body : Code} {Q : Exit → Act → World → Prop} {a : Act} {w : World} (h1 : 1 ≤ n) {gf : Nat} {lb : Array Value}
    (hg : a.eval g = .func (.func gf) #[] lb) (eg : ∀ args w, (callFunc gf args).run P w = .ok (.enter gf args) w) (hps : ps.size = 1) (Z m : Nat) (hZ : Z < w.heap.size) (xs : List Int)
    (hseq : ∀ (l : Nat) (J : List Int → World → Prop) (W : World), W.heap[Z]? = w.heap[Z]? → (∀ s A v, J s A → J s (A.setCell ⟨Z, 0, none⟩ v)) →
      (∀ pre x W1, J pre W1 → pre.length < m → YieldAt Fence.wide (n - 1 - 1) P l #[.int .u8 x] W1 fun e W' => e = .returned (.bool true) ∧ J (pre ++ [x]) W' ∧ W'.heap[Z]? = W1.heap[Z]?) → J [] W →
      CallsIn Fence.wide (n - 1) P gf (#[.func (.yield l) #[] #[]] ++ lb) W fun e W' => (∃ v, e = .returned v) ∧ J xs W')
    (I : List Int → World → Prop) (hI : OwnFrom w.heap.size I) (hIZ : ∀ s A v, I s A → I s (A.setCell ⟨Z, 0, none⟩ v)) (h0 : I [] w) (a₁ : Int → Act)
    (hassign : ∀ (l : Nat) (x : Int) (W : World) (K : Act → World → Prop), K (a₁ x) W →
      assign.wpIn (Fence.wide.inRound l) (n - 1 - 1) P (Exit.then K (fun _ _ _ => False)) { tmps := (ps.zip #[.int .u8 x]).foldl (fun t (p, v) => t.setIfInBounds p v) a.tmps, defers := [] } W)
    (hbody : ∀ (l : Nat) (pre : List Int) (x : Int) (W : World), I pre W → pre.length < m → body.wpIn (Fence.wide.inRound l) (n - 1 - 1) P
      (fun e _ W' => e = .normal ∧ KeepsOthers W W' ∧ W'.heap[Z]? = W.heap[Z]? ∧ I (pre ++ [x]) W') (a₁ x) W)
    (hdone : ∀ (D : Nat) (W : World), w.heap.size ≤ D → I xs W → W.heap[D]? = some (.deferred (some [])) → Q .normal { a with defers := { target := .collected D, args := #[] } :: a.defers } W) :
    (Code.rangeFunc g ps assign body).wpIn Fence.wide n P Q a w := by
  refine wpIn_rangeFunc fun fn hfn => ?_
  obtain ⟨rec, hrec⟩ : ∃ rec : LoopState → Loop, rec = fun st => { state := st, pending := none, fn, tmps := a.tmps, params := ps, assign, body, defers := w.heap.size } := ⟨_, rfl⟩
  obtain ⟨W1, hW1⟩ : ∃ W1, (w.alloc (.deferred (some []))).alloc (.loop (rec .ready)) = W1 := ⟨_, rfl⟩
  have hold : ∀ k, k < w.heap.size → W1.heap[k]? = w.heap[k]? := fun k hk => by
    rw [← hW1]; exact (Below.heap_alloc _ _ k (by simp; omega)).trans (Below.heap_alloc _ _ k hk)
  have hL1 : W1.heap[w.heap.size + 1]? = some (.loop (rec .ready)) := by
    have := World.alloc_heap_new (w.alloc (.deferred (some []))) (.loop (rec .ready)); rw [World.size_alloc] at this; rw [← hW1]; exact this
  have hK1 : W1.heap[w.heap.size]? = some (.deferred (some [])) := by
    rw [← hW1]; exact (Below.heap_alloc _ _ _ (by simp)).trans (World.alloc_heap_new w _)
  have hI1 : I [] W1 := by rw [← hW1]; exact hI.alloc _ (hI.alloc _ h0)
  refine ⟨w.heap.size + 1, [{ target := .collected w.heap.size, args := #[] }], W1, { target := .fn (.func gf) lb, args := #[.func (.yield (w.heap.size + 1)) #[] #[]] }, W1, gf,
    #[.func (.yield (w.heap.size + 1)) #[] #[]] ++ lb, W1, by rw [← hW1, hrec]; exact run_enterLoop_outer _ _ _ _ _, by simp only [resolve, hg]; simp [go_sem],
    fun f' hf' => trivial, by simp [invoke, go_sem, eg], fun _ => h1, ?_⟩
  refine (hseq (w.heap.size + 1) (fun pre W => I pre W ∧ W.heap[w.heap.size + 1]? = some (.loop (rec .ready)) ∧ W.heap[w.heap.size]? = some (.deferred (some []))) W1 (hold Z hZ)
    (fun s A v hs => ⟨hIZ s A v hs.1, (Below.heap_setCell A ⟨Z, 0, none⟩ v _ (by show w.heap.size + 1 ≠ Z; omega)).trans hs.2.1, (Below.heap_setCell A ⟨Z, 0, none⟩ v _ (by show w.heap.size ≠ Z; omega)).trans hs.2.2⟩)
    ?_ ⟨hI1, hL1, hK1⟩).mono ?_
  · rintro pre x W ⟨hi, hl, hk⟩ hlen
    have hlt : w.heap.size + 1 < W.heap.size := (Array.getElem?_eq_some_iff.1 hl).1
    have hy := run_yield (P := P) (args := #[.int .u8 x]) hl (by rw [hrec]; exact hps.symm)
    rw [hrec] at hy
    refine ⟨fn, _, assign, body, hy, roundIn_of_wpIn hfn (hassign _ x W _ ⟨_, run_beginRound hl (by rw [hrec]), ?_⟩)⟩
    clear hy
    have hr2 : ({ rec .ready with state := .busy } : Loop) = rec .busy := by rw [hrec]
    rw [hr2]
    have hl2 : (W.putObj (w.heap.size + 1) (.loop (rec .busy))).heap[w.heap.size + 1]? = some (.loop (rec .busy)) := World.putObj_heap_same hlt
    have hk2 : (W.putObj (w.heap.size + 1) (.loop (rec .busy))).heap[w.heap.size]? = some (.deferred (some [])) := (World.putObj_heap_other (by omega)).trans hk
    refine wpIn_mono (hbody _ pre x _ (hI.putObj _ hi (by omega) hl rfl) hlen) ?_
    rintro e a3 W3 ⟨rfl, hk3, hz3, hi3⟩
    have hl3 := hk3.same _ _ hl2 rfl
    have hlt3 := (Array.getElem?_eq_some_iff.1 hl3).1
    refine ⟨_, _, run_endRound (P := P) none hl3, rfl, ⟨hI.putObj _ hi3 (by omega) hl3 rfl, ?_, ?_⟩, ?_⟩
    · rw [World.putObj_heap_same hlt3, hrec]; rfl
    · exact (World.putObj_heap_other (by omega)).trans (hk3.same _ _ hk2 rfl)
    · exact (World.putObj_heap_other (by omega)).trans (hz3.trans (World.putObj_heap_other (by omega)))
  · rintro e W2 ⟨⟨v, rfl⟩, hi, hl, hk⟩
    exact ⟨none, _, by have := run_endLoop (P := P) hl (by rw [hrec]; simp); rw [hrec] at this; exact this, hdone _ _ (Nat.le_refl _) (hI.putObj _ hi (by omega) hl rfl) ((World.putObj_heap_other (by omega)).trans hk)⟩


theorem digits_any (n : Nat) (a : Int) (w : World) :
    CallsIn Fence.wide n Try.prog 24 #[.int .i64 a] w fun e w' => e = .returned (.func (.func 28) #[] #[.pointer (some ⟨w.heap.size, 0, none⟩)]) ∧ w' = w.alloc (.cells #[.int .i64 a] 3) := by
  refine callsIn_of_wp Try.func24 rfl trivial ?_ rfl
  simp only [Try.ntmps24, List.size_toArray, List.length_cons, List.length_nil, Nat.reduceAdd, Nat.reduceSub, Array.replicate_succ, Array.replicate_zero, List.push_toArray, List.append_toArray, List.nil_append, List.cons_append]
  gi_wp2
  go_ret
  exact ⟨rfl, rfl⟩

theorem cell_one (w : World) (x : Value) (t : TypeId) : ∀ j u, [x][j]? = some u → (w.alloc (.cells #[x] t)).cell? ((⟨w.heap.size, 0, none⟩ : Addr).add j) = some u := by
  intro j u hj
  rcases j with _ | j
  · obtain rfl : x = u := by simpa using hj
    exact (Boxed.new w t x).cell
  · simp at hj

/-- Between two rounds: the box holds a slice that owns what has come. -/
def PutAt (w : World) (Bs : Nat) (ss : List Int) (W : World) : Prop :=
  (∃ v, Boxed W Bs 23 v ∧ W.ownsRow w.heap.size 5 1 v ss.length (ss.map (Value.int .u8)) ∧ True) ∧ Below w.heap.size w W ∧ ∃ u, Boxed W (w.heap.size + 1) 3 u

def num_Put.f (a0 : Int) : Option (List Int × Int) :=
  if a0 < 0 ∨ 1099511627776 < a0 then some ([], 2) else
    (slices_Reverse_byte_byte.f 10 (low a0.toNat ++ [((low a0.toNat).length : Int)])).bind fun r => some (r, 0)

set_option maxRecDepth 100000 in
set_option maxHeartbeats 4000000 in
theorem num_Put.calls (a0 : Int) (r1 : List Int) (r2 : Int) (w : World) (h : num_Put.f a0 = some (r1, r2)) :
    Calls Try.prog 10 #[.int .i64 a0] w fun e w' => ∃ v0_ : Value, e = .returned (.tuple #[v0_, .int .i64 r2]) ∧ Kd.R (Kd.int .u8) 5 w' w.heap.size (fun _ => True) v0_ r1 ∧ Below w.heap.size w w' := by
  unfold num_Put.f at h
  by_cases hout : a0 < 0 ∨ 1099511627776 < a0
  · rw [if_pos hout] at h
    obtain ⟨rfl, rfl⟩ := Prod.mk.inj (Option.some.inj h)
    clear h
    have hB := Below.refl w.heap.size w
    rcases Int.lt_or_le a0 0 with hn | hn
    · go_enter Try.func10, Try.ntmps10
      go_wp2
      go_ret2
      exact ⟨_, rfl, Kd.R_nil _ _ _ _ _, hB⟩
    · have hg : 1099511627776 < a0 := by omega
      clear hout
      go_enter Try.func10, Try.ntmps10
      go_wp2
      go_ret2
      exact ⟨_, rfl, Kd.R_nil _ _ _ _ _, hB⟩
  · rw [if_neg hout] at h
    obtain ⟨rr, hrv, h⟩ := Option.bind_eq_some_iff.1 h
    obtain ⟨rfl, rfl⟩ := Prod.mk.inj (Option.some.inj h)
    obtain ⟨N, rfl⟩ : ∃ N : Nat, a0 = (N : Int) := ⟨a0.toNat, by omega⟩
    have hN : N ≤ 1099511627776 := by omega
    rw [Int.toNat_natCast] at hrv
    have HRV := Aside0.mk hrv
    clear h hrv hout
    have hlen : (low N).length ≤ 6 := low_len 6 N (by omega)
    refine (callsIn_wide (n := 4)).1 ?_
    refine callsIn_of_wp_marks Try.func10 rfl trivial ?_ rfl
    simp only [Try.ntmps10, List.size_toArray, List.length_cons, List.length_nil, Nat.reduceAdd, Nat.reduceSub, Array.replicate_succ, Array.replicate_zero, List.push_toArray, List.append_toArray, List.nil_append, List.cons_append]
    gi_wp2_with (refine ⟨trivial, ?_⟩; gi_at_call 24; refine (digits_any _ _ _).mono ?_; rintro e w' ⟨rfl, rfl⟩)
    have bA : Boxed (w.alloc (.cells #[.slice none 0 0] 23)) w.heap.size 23 (.slice none 0 0) := Boxed.new _ _ _
    have bZ := Boxed.new (w.alloc (.cells #[.slice none 0 0] 23)) 3 (.int .i64 (N : Int))
    rw [World.size_alloc] at bZ
    have hB0 : Below w.heap.size w ((w.alloc (.cells #[.slice none 0 0] 23)).alloc (.cells #[.int .i64 (N : Int)] 3)) := ((Below.refl _ w).alloc (Nat.le_refl _) _).alloc (by simp) _
    obtain ⟨i0, hi, hz0, hz1, hz2⟩ := info_parts info5
    refine rangeFunc_Z (by omega) (gf := 28) (lb := #[.pointer (some ⟨w.heap.size + 1, 0, none⟩)]) rfl (enters_of Try.func28 (by kernel_rfl) rfl) rfl (w.heap.size + 1) (low N).length (by simp) (low N)
      (fun l J W hW hZ hY h0 => digits1_in _ (by omega) l _ N hN J hZ hY W (hW.trans bZ) h0)
      (PutAt w w.heap.size)
      (OwnFrom.and (Own.from (holdsRow_own w.heap.size w.heap.size 23 5 1 List.length (List.map (Value.int .u8)) (fun _ _ => True)) _) (OwnFrom.and (ownFrom_below (Nat.le_refl _) (by simp; omega)) (Own.from (fun s A B row hs hg hr => by
          obtain ⟨u, hu⟩ := hs
          exact ⟨u, hu.kept hg (fun e => by obtain ⟨o, h1, h2⟩ := hr _ e.symm; rw [show A.heap[w.heap.size + 1]? = _ from hu] at h1; cases h1; cases h2)⟩) _)))
      ?hIZ ⟨⟨_, bA.alloc _, ⟨rfl, .inl ⟨rfl, rfl⟩⟩, trivial⟩, hB0, _, bZ⟩
      (fun x => { tmps := #[.int .i64 N, undef, .slice none 0 0, .int .i64 0, .pointer (some ⟨w.heap.size, 0, none⟩), .int .u8 x, .int .i64 N, .bool (decide ((N : Int) < 0)), .bool (decide ((N : Int) < 0)), .int .i64 N, .bool (decide (1099511627776 < (N : Int))), .bool (decide ((N : Int) < 0) || decide (1099511627776 < (N : Int))), .int .i64 N, .func (.func 28) #[] #[.pointer (some ⟨w.heap.size + 1, 0, none⟩)], .int .u8 x, undef, undef, undef, undef, undef, undef, undef, undef, undef, undef, undef, undef, undef], defers := [] }) ?assign ?body ?done
    case hIZ =>
      rintro s A v ⟨⟨u, hb, ho, _⟩, hB, u2, hz⟩
      exact ⟨⟨u, hb.kept (grownBy_setCell' _ _ _) (by simp), ho.kept (grownBy_setCell' _ _ _) (.inr (hz.not_row (by decide) ho).symm), trivial⟩, hB.setCell (p := ⟨w.heap.size + 1, 0, none⟩) (by simp) _, v, hz.set v⟩
    case assign =>
      intro l x W K hK
      gi_wp2
      exact hK
    case body =>
      rintro l pre x W ⟨⟨v, hb, ho, _⟩, hB, uz, hz⟩ hlt
      have hcx := hb.cell
      gi_wp2_with (first
        | (gi_at_builtin; refine wpListIn_append_own _ rfl _ _ 23 rfl w.heap.size 5 i0 (.int .u8 0) 1 1 Try.underlying23 hi hz0 hz1 hz2 rfl (by decide) _ _ _ rfl (ho.alloc _) ⟨W.heap.size, 0, none⟩ 1 1 [.int .u8 x] rfl rfl (cell_one _ _ _) (by simp [Value.oneCell']) (by unfold maxLen; omega) (by omega) (by have := hB.size; simp; omega) ?_; intro v' w3 hown' hg3 hnil3
           obtain ⟨hb1, hb2, hb3, hb4, hb5⟩ := hb.appended (by decide) ho hB.size (Nat.le_refl _) hown' hg3
           obtain ⟨g', cap', rfl⟩ := ownsRow_succ hown'
           have hf1 := hb1.frozen
           have hc1 := hb1.cell
           go_frame)
        | gi_in)
      have hz3 : w3.heap[w.heap.size + 1]? = W.heap[w.heap.size + 1]? := (hg3.block _ (by have := hz.lt; simp; omega) (hz.not_row (by decide) ho)).trans (Below.heap_alloc _ _ _ hz.lt)
      have hz4 : (w3.setCell ⟨w.heap.size, 0, none⟩ (Value.slice (some ⟨g', 0, none⟩) (pre.length + 1) cap')).heap[w.heap.size + 1]? = W.heap[w.heap.size + 1]? := (Below.heap_setCell _ ⟨w.heap.size, 0, none⟩ _ _ (by show w.heap.size + 1 ≠ w.heap.size; omega)).trans hz3
      exact ⟨hz4, ⟨_, hb2, by simpa using hb3, trivial⟩, hB.trans hb5, uz, hz4.trans hz⟩
    case done =>
      rintro D W hD ⟨⟨v, hb, ho, _⟩, hB, uz, hz⟩ hK
      have hcx := hb.cell
      have hl := hlen
      obtain ⟨Av, cv, rfl⟩ : ∃ Av cv, v = .slice Av (low N).length cv := by
        rcases ho.2 with ⟨rfl, h0⟩ | ⟨g, cap, cur, rfl, _⟩
        · exact ⟨none, 0, by rw [h0]⟩
        · exact ⟨_, _, rfl⟩
      gi_wp2_with (first
        | (gi_at_builtin; refine wpListIn_append_own _ rfl _ _ 23 rfl w.heap.size 5 i0 (.int .u8 0) 1 1 Try.underlying23 hi hz0 hz1 hz2 rfl (by decide) _ _ _ rfl (ho.alloc _) ⟨W.heap.size, 0, none⟩ 1 1 [.int .u8 ((low N).length : Int)] rfl rfl (cell_one _ _ _) (by simp [Value.oneCell']) (by unfold maxLen; omega) (by omega) (by have := hB.size; simp; omega) ?_; intro v' w3 hown' hg3 hnil3
           obtain ⟨hb1, hb2, hb3, hb4, hb5⟩ := hb.appended (by decide) ho hB.size (Nat.le_refl _) hown' hg3
           obtain ⟨g', cap', rfl⟩ := ownsRow_succ hown'
           have hf1 := hb1.frozen
           have hc1 := hb1.cell
           go_frame)
        | gi_in)
      have hK4 := hb4.same _ _ hK rfl
      have hR4 : Kd.R (Kd.int .u8) 5 (w3.setCell ⟨w.heap.size, 0, none⟩ (Value.slice (some ⟨g', 0, none⟩) ((low N).length + 1) cap')) w.heap.size (fun k => k ≠ w.heap.size ∧ k ≠ D) (Value.slice (some ⟨g', 0, none⟩) ((low N).length + 1) cap') (low N ++ [((low N).length : Int)]) :=
        Kd.R_of_own (by simpa [encs] using hb3) (fun k hk => ⟨fun e => hb2.not_row (by decide) hb3 (by rw [hk, e]), fun e => by
          obtain ⟨cells, hc⟩ := own_typed hb3 k hk
          rw [e, hK4] at hc; cases hc⟩)
      have hB4 := hB.trans hb5
      have hbx := hb2
      obtain ⟨W4, hW4⟩ : ∃ W4, w3.setCell ⟨w.heap.size, 0, none⟩ (Value.slice (some ⟨g', 0, none⟩) ((low N).length + 1) cap') = W4 := ⟨_, rfl⟩
      rw [hW4] at hK4 hR4 hB4 hbx ⊢
      clear hb1 hb2 hb3 hb4 hb5 hown' hg3 hnil3 hf1 hc1 hW4 hcx ho hb
      refine ⟨trivial, (callsIn_wide.2 (slices_Reverse_byte_byte.calls 10 _ _ _ _ w W4 hB4 hR4 HRV.out)).mono ?_⟩
      rintro e W5 ⟨rfl, hR5, hB5, hK5⟩
      have hb5 : Boxed W5 w.heap.size 23 _ := (hK5.2 _ hbx.lt (fun h => h.1 rfl)).trans hbx
      have hD5 := (hK5.2 D (Array.getElem?_eq_some_iff.1 hK4).1 (fun h => h.2 rfl)).trans hK4
      have hc5 := hb5.cell
      dsimp only
      gi_wp2
      refine ⟨by simp, .inl ⟨_, _, rfl, run_takeDeferred hD5, ?_⟩⟩
      have hDl : D < W4.heap.size := (Array.getElem?_eq_some_iff.1 hK4).1
      refine ⟨_, results_tmp2 rfl _ _ _, _, rfl, ?_, hB5.trans (belowK_b (w := w) (Nat.le_refl _) W5 D _ _ (by simp at hD; omega) hD5 rfl rfl)⟩
      refine Kd.R_mono (Kd.R_step hR5 (fun k hk _ => World.putObj_heap_other ?_)) (fun _ _ => trivial)
      rintro rfl
      rcases hk with h | h
      · exact h.2 rfl
      · omega


end Go.Proofs.Ytnaohcimmafhkaa.G
