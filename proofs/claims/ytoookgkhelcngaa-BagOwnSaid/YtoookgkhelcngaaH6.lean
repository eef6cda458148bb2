/- A deed to a bag with a datagram of it: where there is none, all stays. -/
import Derived.Test.YtoookgkhelcngaaH5
namespace Go.Proofs.Ytoookgkhelcngaa.G
open Go.RowKit Go.Proofs.YtoookgkhelcngaaW.PrintWords Go.Proofs.YtoookgkhelcngaaW.PrintLast Go.Proofs.YtoookgkhelcngaaW.PrintMore
open Go.Shelf
set_option linter.unusedVariables false
set_option linter.unusedSimpArgs false

/-- A scope left by at most one goto, ahead. -/
theorem wp_scope_once {P : Program} {a : Act} {w : World} {Q : Exit → Act → World → Prop} {c rest : Code} (l : Nat) (hf : findLabel c l = some rest)
    (first : c.wp P (Exit.jump l (fun a w => rest.wp P (Exit.noGoto Q) a w) Q) a w) : (Code.scope c).wp P Q a w :=
  wp_scope_jumps l _ (fun _ _ => 0) hf first (fun a w hJ => wp_mono hJ (fun e a' w' h => by cases e <;> first | exact h.elim | exact h))
theorem Exit.jump_goto {l : Nat} {J : Act → World → Prop} {Q : Exit → Act → World → Prop} {a : Act} {w : World} (h : J a w) : Exit.jump l J Q (.goto l) a w := ⟨rfl, h⟩
theorem Exit.jump_ret {l : Nat} {J : Act → World → Prop} {Q : Exit → Act → World → Prop} {a : Act} {w : World} : Exit.jump l J Q .ret a w = Q .ret a w := rfl

set_option maxRecDepth 100000 in
set_option maxHeartbeats 8000000 in
theorem at_none (A : Option Addr) (c : Nat) (l : List S26) (n i : Int) (fv : Value) (w : World) (hxl : l.length ≤ 1000000000 ∧ l.all (fun x => decide (x.f1.length ≤ 140737488355328)) = true)
    (hr : Kd.C k26 w A l.length l) (hc : l.length ≤ c) (hi : ¬ (0 ≤ i ∧ i < l.length)) :
    Calls Try.prog 22 #[.agg #[.slice A l.length c, .int .i64 n], .int .i64 i, fv] w fun e w' => ∃ v0, e = .returned (.tuple #[.agg #[v0, .int .i64 n], .int .i64 2]) ∧ Kd.S k26 26 w' w.heap.size (fun k => w.heap.size + 1 < k) v0 l ∧ Below w.heap.size w w' := by
  have HR := Aside0.mk hr
  have HC := Aside0.mk hc
  have HXL := Aside0.mk hxl
  clear hr hc hxl
  go_enter Try.func22, Try.ntmps22
  go_wp2
  refine wp_scope_once 0 rfl ?_
  go_wp2_with (go_at_call 16; refine Stop.out ?_)
  refine ⟨?_⟩
  refine (bag_Own.calls A c l n l n _ (Kd.C_below HR.out (below_alloc (below_alloc (Below.refl _ _) _) _)) HC.out (by unfold bag_Own.f; rw [if_pos HXL.out])).mono ?_
  rintro e w1 ⟨v1, rfl, hS1, hb1⟩
  obtain ⟨Av, cv, rfl⟩ := Kd.S_slice hS1
  have hbR : w1.heap[w.heap.size + 1]? = some (.cells #[.slice none 0 0, .int .i64 0] 28 (0, 0)) := (hb1.block _ (by simp)).trans (by have := World.alloc_heap_new (w.alloc (Obj.cells #[Value.slice A l.length c, Value.int IntKind.i64 n] 28)) (Obj.cells #[Value.slice none 0 0, Value.int IntKind.i64 0] 28); rwa [World.size_alloc] at this)
  have hBw : Below w.heap.size w w1 := (below_alloc (below_alloc (Below.refl _ w) _) _).trans (hb1.mono (by simp; omega))
  have hS2 : Kd.S k26 26 w1 w.heap.size (fun k => w.heap.size + 1 < k) (.slice Av l.length cv) l := Kd.S_lower (Kd.S_mono (Kd.S_bound hS1) (fun k hk => by have := hk.2.1; simp at this; omega)) (by simp; omega)
  have hq0 : w1.cell? ⟨w.heap.size + 1, 0, none⟩ = some (.slice none 0 0) := (blk_cell hbR 0).trans rfl
  have hq1 : w1.cell? ⟨w.heap.size + 1, 1, none⟩ = some (.int .i64 0) := (blk_cell hbR 1).trans rfl
  have hf0 := blk_frozen hbR 0
  have hf1 := blk_frozen hbR 1
  have HBR := Aside0.mk hbR
  have HBW := Aside0.mk hBw
  have HS2 := Aside0.mk hS2
  clear hS1 hb1 hbR hBw hS2
  dsimp only
  go_upto_region 2 with (fail)
  obtain ⟨W2, hW2⟩ : ∃ W2, ((w1.setCell ⟨w.heap.size + 1, 0, none⟩ (.slice Av l.length cv)).setCell ⟨w.heap.size + 1, 1, none⟩ (.int .i64 n)) = W2 := ⟨_, rfl⟩
  have hb2 : W2.heap[w.heap.size + 1]? = some (.cells #[.slice Av l.length cv, .int .i64 n] 28 (0, 0)) := by rw [← hW2]; exact blk_put (cs := #[.slice Av l.length cv, .int .i64 0]) (blk_put (cs := #[.slice none 0 0, .int .i64 0]) HBR.out 0 _ rfl) 1 _ rfl
  have hB2 : Below w.heap.size w W2 := by rw [← hW2]; exact (HBW.out.setCell (p := ⟨w.heap.size + 1, 0, none⟩) (by show w.heap.size ≤ w.heap.size + 1; omega) _).setCell (p := ⟨w.heap.size + 1, 1, none⟩) (by show w.heap.size ≤ w.heap.size + 1; omega) _
  have hS3 : Kd.S k26 26 W2 w.heap.size (fun k => w.heap.size + 1 < k) (.slice Av l.length cv) l := by
    rw [← hW2]
    exact Kd.S_far (p := ⟨w.heap.size + 1, 1, none⟩) (Kd.S_far (p := ⟨w.heap.size + 1, 0, none⟩) HS2.out (fun k hk => by show k ≠ w.heap.size + 1; omega) _) (fun k hk => by show k ≠ w.heap.size + 1; omega) _
  rw [hW2]
  clear hW2 hq0 hq1 hf0 hf1
  have hq0 : W2.cell? ⟨w.heap.size + 1, 0, none⟩ = some (.slice Av l.length cv) := (blk_cell hb2 0).trans rfl
  have hq1 : W2.cell? ⟨w.heap.size + 1, 1, none⟩ = some (.int .i64 n) := (blk_cell hb2 1).trans rfl
  have hf0 := blk_frozen hb2 0
  have hf1 := blk_frozen hb2 1
  have HB2 := Aside0.mk hb2
  have HBB := Aside0.mk hB2
  have HS3 := Aside0.mk hS3
  clear hb2 hB2 hS3
  have hh : (i < 0) = True ∨ ((i < 0) = False ∧ 0 ≤ i ∧ ((l.length : Int) ≤ i)) := by
    by_cases h0 : i < 0
    · exact .inl (eq_true h0)
    · exact .inr ⟨eq_false h0, by omega, by omega⟩
  clear hi
  rcases hh with h0a | ⟨h0a, h0b, h1⟩
  · go_wp2
    go_step3
    refine ⟨rfl, ?_⟩
    go_wp2
    rw [Exit.noGoto_ret]
    refine bodyPost_ret (results_list (rs := [.cell 6 28, .tmp 7]) rfl (by simp) (.cell (w.heap.size + 1) 28 #[.slice Av l.length cv, .int .i64 n] (0, 0) _ rfl (blk_put (cs := #[.slice Av l.length cv, .int .i64 n]) (blk_put (cs := #[.slice Av l.length cv, .int .i64 n]) HB2.out 0 _ rfl) 1 _ rfl) Try.underlying28 rfl (by kernel_rfl) (.tmp .nil))) rfl ?_
    exact ⟨_, rfl, Kd.S_far (p := ⟨w.heap.size + 1, 1, none⟩) (Kd.S_far (p := ⟨w.heap.size + 1, 0, none⟩) HS3.out (fun k hk => by show k ≠ w.heap.size + 1; omega) _) (fun k hk => by show k ≠ w.heap.size + 1; omega) _, (HBB.out.setCell (p := ⟨w.heap.size + 1, 0, none⟩) (by show w.heap.size ≤ w.heap.size + 1; omega) _).setCell (p := ⟨w.heap.size + 1, 1, none⟩) (by show w.heap.size ≤ w.heap.size + 1; omega) _⟩
  · go_wp2
    go_step3
    refine ⟨rfl, ?_⟩
    go_wp2
    rw [Exit.noGoto_ret]
    refine bodyPost_ret (results_list (rs := [.cell 6 28, .tmp 7]) rfl (by simp) (.cell (w.heap.size + 1) 28 #[.slice Av l.length cv, .int .i64 n] (0, 0) _ rfl (blk_put (cs := #[.slice Av l.length cv, .int .i64 n]) (blk_put (cs := #[.slice Av l.length cv, .int .i64 n]) HB2.out 0 _ rfl) 1 _ rfl) Try.underlying28 rfl (by kernel_rfl) (.tmp .nil))) rfl ?_
    exact ⟨_, rfl, Kd.S_far (p := ⟨w.heap.size + 1, 1, none⟩) (Kd.S_far (p := ⟨w.heap.size + 1, 0, none⟩) HS3.out (fun k hk => by show k ≠ w.heap.size + 1; omega) _) (fun k hk => by show k ≠ w.heap.size + 1; omega) _, (HBB.out.setCell (p := ⟨w.heap.size + 1, 0, none⟩) (by show w.heap.size ≤ w.heap.size + 1; omega) _).setCell (p := ⟨w.heap.size + 1, 1, none⟩) (by show w.heap.size ≤ w.heap.size + 1; omega) _⟩
end Go.Proofs.Ytoookgkhelcngaa.G
