/- The bag's iterator over datagrams: in each round it tells a place and a datagram whose bytes lie in memory of their own. -/
import Derived.Test.YtoookgkhelcngaaH1
namespace Go.Proofs.Ytoookgkhelcngaa.G
open Go.RowKit Go.Proofs.YtoookgkhelcngaaW.PrintWords Go.Proofs.YtoookgkhelcngaaW.PrintLast Go.Proofs.YtoookgkhelcngaaW.PrintMore
open Go.Shelf
set_option linter.unusedVariables false
set_option linter.unusedSimpArgs false
attribute [local go_sem] Oper.semAt_some

/-- What is told in round i. -/
def Px (xs : List S26) (i : Nat) (x : Array Value) (B : Nat) (W : World) : Prop :=
  ∃ A1 c1, x = #[.int .i64 (i : Int), .agg #[.int .i64 (rd_T26 xs i).f0, .slice A1 (rd_T26 xs i).f1.length c1, .bool (rd_T26 xs i).f2]] ∧ (Kd.int .u8).R 5 W B (fun _ => True) (.slice A1 (rd_T26 xs i).f1.length c1) (rd_T26 xs i).f1
theorem Px.size {xs : List S26} {i : Nat} {x : Array Value} {B : Nat} {W : World} (h : Px xs i x B W) : x.size = 2 := by
  obtain ⟨A1, c1, rfl, _⟩ := h; rfl

/-- Datagrams that a machine holds. -/
def Fits (xs : List S26) : Prop := xs.length ≤ 1000000000 ∧ ∀ x ∈ xs, x.f1.length ≤ 140737488355328
theorem Fits.at {xs : List S26} (h : Fits xs) (i : Nat) (hi : i < xs.length) : (rd_T26 xs i).f1.length ≤ 140737488355328 := by
  have e : rd_T26 xs i = xs[i] := by simp [rd_T26, hi]
  rw [e]
  exact h.2 _ (List.getElem_mem hi)

set_option maxRecDepth 100000 in
set_option maxHeartbeats 8000000 in
theorem grams1_any (n : Nat) (hn : 1 ≤ n) (l Bs : Nat) (w0 : World) (A : Option Addr) (c : Nat) (xs : List S26) (hx : Fits xs) (hr : Kd.C k26 w0 A xs.length xs) (hc : xs.length ≤ c) (J : Nat → World → Prop)
    (hJb : ∀ i A A', J i A → Below A.heap.size A A' → J i A')
    (hJ : ∀ i W, J i W → Below w0.heap.size w0 W ∧ Boxed W Bs 22 (.slice A xs.length c))
    (hY : ∀ i x W0 W1, i < xs.length → J i W0 → Below W0.heap.size W0 W1 → Px xs i x W0.heap.size W1 → YieldAt Fence.wide (n - 1) Try.prog l x W1 fun e W' => e = .returned (.bool true) ∧ J (i + 1) W')
    (W : World) (h0 : J 0 W) : CallsIn Fence.wide n Try.prog 31 #[.func (.yield l) #[] #[], .pointer (some ⟨Bs, 0, none⟩)] W fun e W' => (∃ v, e = .returned v) ∧ J xs.length W' := by
  refine callsIn_of_wp Try.func31 rfl trivial ?_ rfl
  simp only [Try.ntmps31, List.size_toArray, List.length_cons, List.length_nil, Nat.reduceAdd, Nat.reduceSub, Array.replicate_succ, Array.replicate_zero, List.push_toArray, List.append_toArray, List.nil_append, List.cons_append]
  have hbs := (hJ 0 W h0).2
  have hcx := hbs.cell
  gi_wp2
  clear hcx hbs
  have HR := Aside0.mk hr
  have HC := Aside0.mk hc
  have HX := Aside0.mk hx
  have HY := Aside0.mk hY
  have HJ := Aside0.mk hJ
  have HJB := Aside0.mk hJb
  have hxl := hx.1
  clear hr hc hx hY hJ hJb
  gi_loopw [7] (fun i wr => ∃ k : Nat, k ≤ xs.length ∧ i = .int .i64 k ∧ J k wr)
    (fun i _ => xs.length - (intOf i).toNat)
  case atStart => exact ⟨0, Nat.zero_le _, rfl, h0⟩
  case round =>
    obtain ⟨k, hk, rfl, hJs⟩ := hrel
    have HJS := Aside0.mk hJs
    clear hJs h0
    by_cases hlt : k < xs.length
    · have HB0 := Aside0.mk (HJ.out k wr HJS.out).1
      obtain ⟨ad, A1, c1, e1, hx0, hx1, hx2, hl1, hi1⟩ := at_T26 HR.out (k : Int) (by omega) (by omega)
      subst e1
      replace hx0 := (HB0.out.cell (World.block_lt_of_cell? w0 _ hx0)).trans hx0
      replace hx1 := (HB0.out.cell (World.block_lt_of_cell? w0 _ hx1)).trans hx1
      replace hx2 := (HB0.out.cell (World.block_lt_of_cell? w0 _ hx2)).trans hx2
      have HR1 := Aside0.mk (Kd.C_below hi1 HB0.out)
      have HL1 := Aside0.mk hl1
      have HF1 := Aside0.mk (HX.out.at k hlt)
      obtain ⟨X0, hX0⟩ : ∃ X0, (rd_T26 xs k).f0 = X0 := ⟨_, rfl⟩
      obtain ⟨X1, hX1⟩ : ∃ X1, (rd_T26 xs k).f1 = X1 := ⟨_, rfl⟩
      obtain ⟨X2, hX2⟩ : ∃ X2, (rd_T26 xs k).f2 = X2 := ⟨_, rfl⟩
      have HX0 := Aside0.mk hX0
      have HX1 := Aside0.mk hX1
      have HX2 := Aside0.mk hX2
      rw [hX0] at hx0
      rw [hX1] at hx1 HR1 HL1 HF1
      rw [hX2] at hx2
      clear hl1 hi1 hX0 hX1 hX2
      have hBW := Below.refl wr.heap.size wr
      have HB := Aside0.mk hBW
      clear hBW
      rw [Int.toNat_natCast] at hx0 hx1 hx2
      gi_wp2_with (gi_at_call 32; skip)
      refine ⟨trivial, ?_⟩
      refine (callsIn_wide.2 (bytes_Clone.calls A1 c1 X1 X1 _ (Kd.C_below HR1.out (below_alloc (Below.refl _ _) _)) HL1.out (by unfold bytes_Clone.f; rw [if_pos HF1.out]))).mono ?_
      rintro e w1 ⟨v1, rfl, ho1, hb1⟩
      obtain ⟨A2, c2, e2⟩ := Kd.R_slice ho1; subst e2
      have hbk : w1.heap[wr.heap.size]? = some (.cells #[.int .i64 X0, .slice A1 X1.length c1, .bool X2] 26 (0, 0)) := (hb1.block _ (by rw [World.size_alloc]; omega)).trans (World.alloc_heap_new wr _)
      have hq0 : w1.cell? ⟨wr.heap.size, 0, none⟩ = some (.int .i64 X0) := (blk_cell hbk 0).trans rfl
      have hq1 : w1.cell? ⟨wr.heap.size, 1, none⟩ = some (.slice A1 X1.length c1) := (blk_cell hbk 1).trans rfl
      have hq2 : w1.cell? ⟨wr.heap.size, 2, none⟩ = some (.bool X2) := (blk_cell hbk 2).trans rfl
      have hf1 := blk_frozen hbk 1
      have hBb : Below wr.heap.size wr (w1.setCell ⟨wr.heap.size, 1, none⟩ (.slice A2 X1.length c2)) := ((below_alloc (Below.refl _ wr) _).trans (hb1.mono (by rw [World.size_alloc]; omega))).setCell (p := ⟨wr.heap.size, 1, none⟩) (Nat.le_refl _) _
      have hRb : (Kd.int .u8).R 5 (w1.setCell ⟨wr.heap.size, 1, none⟩ (.slice A2 X1.length c2)) wr.heap.size (fun _ => True) (.slice A2 X1.length c2) X1 :=
        Kd.R_mono (Kd.R_far (p := ⟨wr.heap.size, 1, none⟩) (Kd.R_lower (Kd.R_mono (ok' := fun k => wr.heap.size + 1 ≤ k) (Kd.R_bound ho1) (fun k hk => by have := hk.2.1; rw [World.size_alloc] at this; exact this)) (by rw [World.size_alloc]; omega)) (fun k hk => by show k ≠ wr.heap.size; omega) _) (fun _ _ => trivial)
      obtain ⟨fn, tmps, assign, body, hy, hR⟩ := HY.out k #[.int .i64 (k : Int), .agg #[.int .i64 X0, .slice A2 X1.length c2, .bool X2]] wr _ hlt HJS.out hBb ⟨A2, c2, by rw [HX0.out, HX1.out, HX2.out], by rw [HX1.out]; exact hRb⟩
      clear hRb hBb ho1 hb1 hbk
      dsimp only
      gi_wp2
      trace_state
      refine hR.mono ?_
      rintro e W3 ⟨rfl, hJ3⟩
      gi_wp2
      go_roundw
      case rel => exact ⟨k + 1, by omega, by simp, hJ3⟩
      case measure => simp [intOf]; omega
    · obtain rfl : k = xs.length := by omega
      gi_wp2
      go_end0
      exact ⟨⟨_, rfl⟩, HJS.out⟩

set_option maxHeartbeats 1000000 in
theorem grams_any (n : Nat) (A : Option Addr) (m c : Nat) (w : World) :
    CallsIn Fence.wide n Try.prog 21 #[.slice A m c] w fun e w' => e = .returned (.func (.func 31) #[] #[.pointer (some ⟨w.heap.size, 0, none⟩)]) ∧ w' = w.alloc (.cells #[.slice A m c] 22) := by
  refine callsIn_of_wp Try.func21 rfl trivial ?_ rfl
  simp only [Try.ntmps21, List.size_toArray, List.length_cons, List.length_nil, Nat.reduceAdd, Nat.reduceSub, Array.replicate_succ, Array.replicate_zero, List.push_toArray, List.append_toArray, List.nil_append, List.cons_append]
  gi_wp2
  go_ret
  exact ⟨rfl, rfl⟩
end Go.Proofs.Ytoookgkhelcngaa.G
