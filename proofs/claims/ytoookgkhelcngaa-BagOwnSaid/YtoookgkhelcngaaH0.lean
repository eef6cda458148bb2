/- Laws of the walk that the bag's functions lean on: a range over an iterator that makes memory of its own in each round, and always goes to its end; a region within a round, walked as any other. -/
import Derived.Test.YtoookgkhelcngaaG0
import Derived.RangeFuncNested
import Derived.RangeFuncBound
import Derived.RangeFuncCalls
import Derived.RangeFuncLeaves
import Derived.Shelf.Abstract
import Derived.Shelf.RegionOpen
import Derived.WalkKit
import Derived.OwnWalkIn
import Derived.TacticsInMore
import Derived.LoopNIn
import Derived.LoopIn
import Derived.RangeFuncBox
import Derived.ScopeJumps
import Derived.WalkMore
import Derived.WalkSpells
namespace Go.Proofs.Ytoookgkhelcngaa.G
open Go.RowKit Go.Proofs.YtoookgkhelcngaaW.PrintWords Go.Proofs.YtoookgkhelcngaaW.PrintLast Go.Proofs.YtoookgkhelcngaaW.PrintMore
open Go.Shelf
set_option linter.unusedVariables false
set_option linter.unusedSimpArgs false
attribute [local go_sem] Oper.semAt_some

/-- A row of operations within a round, walked as outside of it. -/
theorem plainList {r n : Nat} {P : Program} {ops : Array Oper} {Q : Exit → Act → World → Prop} (hQ : ¬ LetsOut Q) : ∀ (l : List Oper) (a : Act) (w : World), (∀ o ∈ l, ∀ c, o.op ≠ .defer c) →
    wpList P ops Q l a w → wpListIn (Fence.wide.inRound r) n P ops Q l a w
  | [], _, _, _, h => h
  | o :: rest, a, w, hd, h => by
    have ih := fun a w => plainList (r := r) (n := n) (P := P) (ops := ops) hQ rest a w (fun o ho => hd o (List.mem_cons_of_mem _ ho))
    have ho := hd o List.mem_cons_self
    unfold wpList at h
    unfold wpListIn
    by_cases hw : Region.wanted o (yielded ops a.tmps) = true
    · rw [if_pos hw] at h ⊢
      rcases h with h | h
      · refine ⟨fun _ _ => trivial, ?_⟩
        have e : o.semAt (Fence.wide.inRound r).round a.eval = execOp a.eval o := Oper.semAt_eq _ _ _ ho
        rw [e]
        unfold Oper.wp at h
        revert h
        generalize (execOp a.eval o).run P w = res
        intro h
        match res, h with
        | .ok (.value v) w', h => exact ih _ _ h
        | .ok .skip w', h => exact ih _ _ h
        | .ok (.defer d) w', h => exact ih _ _ h
        | .ok (.enter f args) w', h =>
          refine ⟨fun hh => (by cases hh), ?_⟩
          refine CallsIn.mono (CallsIn.inRound r (callsIn_wide.2 h)) ?_
          intro e w2 h2
          match e, h2 with
          | .returned v, h2 => exact ih _ _ h2
          | .panicked c, h2 => exact h2
          | .outgrown, h2 => exact h2
        | .ok (.row row args) w', h =>
          refine ⟨fun hh => (by cases hh), fun c cs _ => ?_⟩
          obtain ⟨v, w2, r2, s⟩ := h c cs
          exact ⟨v, w2, ih _ _ r2, stepsIn_wide.2 s⟩
        | .halt (.panic v) w', h => exact h
      · exact absurd h.2 hQ
    · rw [if_neg hw] at h ⊢
      exact ⟨fun _ _ => trivial, ih _ _ h⟩

/-- Where the walk is to stand still. -/
structure Stop (p : Prop) : Prop where
  out : p
def noDefer (o : Oper) : Bool := match o.op with | .defer _ => false | _ => true
theorem noDefer_all {l : List Oper} (h : l.all noDefer = true) : ∀ o ∈ l, ∀ c, o.op ≠ .defer c := by
  intro o ho c e
  have := List.all_eq_true.mp h o ho
  unfold noDefer at this
  rw [e] at this
  cases this

/-- A range over an iterator that makes memory of its own in each round and always goes to its end; the body always goes on. -/
theorem rangeFunc_I {n : Nat} {P : Program} {g : Operand} {ps : Array Tmp} {assign body : Code} {Q : Exit → Act → World → Prop} {a : Act} {w : World} (h1 : 1 ≤ n) {gf : Nat} {lb : Array Value}
    (hg : a.eval g = .func (.func gf) #[] lb) (eg : ∀ args w, (callFunc gf args).run P w = .ok (.enter gf args) w) (N : Nat) (Px : Nat → Array Value → Nat → World → Prop) (hps : ∀ i x B W, Px i x B W → x.size = ps.size)
    (I : Nat → World → Prop) (hI : OwnFrom w.heap.size I) (h0 : I 0 w)
    (hseq : ∀ (l : Nat) (J : Nat → World → Prop) (W : World), J 0 W → (∀ i A A', J i A → Below A.heap.size A A' → J i A') → (∀ i A, J i A → I i A) →
      (∀ i x W0 W1, i < N → J i W0 → Below W0.heap.size W0 W1 → Px i x W0.heap.size W1 → YieldAt Fence.wide (n - 1 - 1) P l x W1 fun e W' => e = .returned (.bool true) ∧ J (i + 1) W') →
      CallsIn Fence.wide (n - 1) P gf (#[.func (.yield l) #[] #[]] ++ lb) W fun e W' => (∃ v, e = .returned v) ∧ J N W')
    (Ax : Nat → Array Value → Act → World → Prop) (hAx : ∀ i x a', OwnFrom w.heap.size (fun (_ : Unit) W => Ax i x a' W))
    (hassign : ∀ (l i : Nat) (x : Array Value) (W0 W : World) (K : Act → World → Prop), i < N → I i W0 → Below W0.heap.size W0 W → Px i x W0.heap.size W → (∀ a' W', KeepsOthers W W' → Ax i x a' W' → K a' W') →
      assign.wpIn (Fence.wide.inRound l) (n - 1 - 1) P (Exit.then K (fun _ _ _ => False)) { tmps := (ps.zip x).foldl (fun t (p, v) => t.setIfInBounds p v) a.tmps, defers := [] } W)
    (hbody : ∀ (l i : Nat) (x : Array Value) (a' : Act) (W : World), i < N → Ax i x a' W → body.wpIn (Fence.wide.inRound l) (n - 1 - 1) P
      (fun e _ W' => e = .normal ∧ KeepsOthers W W' ∧ I (i + 1) W') a' W)
    (hdone : ∀ (D : Nat) (W : World), w.heap.size ≤ D → I N W → W.heap[D]? = some (.deferred (some [])) → Q .normal { a with defers := { target := .collected D, args := #[] } :: a.defers } W) :
    (Code.rangeFunc g ps assign body).wpIn Fence.wide n P Q a w := by
  refine wpIn_rangeFunc fun fn hfn => ?_
  obtain ⟨rec, hrec⟩ : ∃ rec : LoopState → Loop, rec = fun st => { state := st, pending := none, fn, tmps := a.tmps, params := ps, assign, body, defers := w.heap.size } := ⟨_, rfl⟩
  obtain ⟨W1, hW1⟩ : ∃ W1, (w.alloc (.deferred (some []))).alloc (.loop (rec .ready)) = W1 := ⟨_, rfl⟩
  have hL1 : W1.heap[w.heap.size + 1]? = some (.loop (rec .ready)) := by
    have := World.alloc_heap_new (w.alloc (.deferred (some []))) (.loop (rec .ready)); rw [World.size_alloc] at this; rw [← hW1]; exact this
  have hK1 : W1.heap[w.heap.size]? = some (.deferred (some [])) := by
    rw [← hW1]; exact (Below.heap_alloc _ _ _ (by simp)).trans (World.alloc_heap_new w _)
  have hI1 : I 0 W1 := by rw [← hW1]; exact hI.alloc _ (hI.alloc _ h0)
  refine ⟨w.heap.size + 1, [{ target := .collected w.heap.size, args := #[] }], W1, { target := .fn (.func gf) lb, args := #[.func (.yield (w.heap.size + 1)) #[] #[]] }, W1, gf,
    #[.func (.yield (w.heap.size + 1)) #[] #[]] ++ lb, W1, by rw [← hW1, hrec]; exact run_enterLoop_outer _ _ _ _ _, by simp only [resolve, hg]; simp [go_sem],
    fun f' hf' => trivial, by simp [invoke, go_sem, eg], fun _ => h1, ?_⟩
  refine (hseq (w.heap.size + 1) (fun i W => I i W ∧ W.heap[w.heap.size + 1]? = some (.loop (rec .ready)) ∧ W.heap[w.heap.size]? = some (.deferred (some []))) W1 ⟨hI1, hL1, hK1⟩
    (fun i A A' hs hb => ⟨hI i A A' none hs.1 (grown_of_below hb none) (by simp), (hb.block _ (Array.getElem?_eq_some_iff.1 hs.2.1).1).trans hs.2.1, (hb.block _ (Array.getElem?_eq_some_iff.1 hs.2.2).1).trans hs.2.2⟩)
    (fun i A hs => hs.1) ?_).mono ?_
  · rintro i x W0 W hiN ⟨hi, hl0, hk0⟩ hb hpx
    have hl := (hb.block _ (Array.getElem?_eq_some_iff.1 hl0).1).trans hl0
    have hk := (hb.block _ (Array.getElem?_eq_some_iff.1 hk0).1).trans hk0
    have hy := run_yield (P := P) (args := x) hl (by rw [hrec]; exact hps _ _ _ _ hpx)
    rw [hrec] at hy
    refine ⟨fn, _, assign, body, hy, roundIn_of_wpIn hfn (hassign _ i x W0 W _ hiN hi hb hpx ?_)⟩
    clear hy
    intro a2 W2 hk2 hax
    have hl2 := hk2.same _ _ hl rfl
    have hk3 := hk2.same _ _ hk rfl
    have hlt2 := (Array.getElem?_eq_some_iff.1 hl2).1
    refine ⟨_, run_beginRound hl2 (by rw [hrec]), ?_⟩
    have hr2 : ({ rec .ready with state := .busy } : Loop) = rec .busy := by rw [hrec]
    rw [hr2]
    have hl4 : (W2.putObj (w.heap.size + 1) (.loop (rec .busy))).heap[w.heap.size + 1]? = some (.loop (rec .busy)) := World.putObj_heap_same hlt2
    have hk4 : (W2.putObj (w.heap.size + 1) (.loop (rec .busy))).heap[w.heap.size]? = some (.deferred (some [])) := (World.putObj_heap_other (by omega)).trans hk3
    refine wpIn_mono (hbody _ i x _ _ hiN (OwnFrom.putObj (s := ()) (hAx i x a2) _ hax (by omega) hl2 rfl)) ?_
    rintro e a3 W3 ⟨rfl, hk5, hi3⟩
    have hl3 := hk5.same _ _ hl4 rfl
    have hlt3 := (Array.getElem?_eq_some_iff.1 hl3).1
    refine ⟨_, _, run_endRound (P := P) none hl3, rfl, hI.putObj _ hi3 (by omega) hl3 rfl, ?_, ?_⟩
    · rw [World.putObj_heap_same hlt3, hrec]; rfl
    · exact (World.putObj_heap_other (by omega)).trans (hk5.same _ _ hk4 rfl)
  · rintro e W2 ⟨⟨v, rfl⟩, hi, hl, hk⟩
    exact ⟨none, _, by have := run_endLoop (P := P) hl (by rw [hrec]; simp); rw [hrec] at this; exact this, hdone _ _ (Nat.le_refl _) (hI.putObj _ hi (by omega) hl rfl) ((World.putObj_heap_other (by omega)).trans hk)⟩
end Go.Proofs.Ytoookgkhelcngaa.G
