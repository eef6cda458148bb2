/- A deed to a bag with a datagram of it that is there: what the deed does is done to a copy. -/
import Derived.Test.YtoookgkhelcngaaH6
namespace Go.Proofs.Ytoookgkhelcngaa.G
open Go.RowKit Go.Proofs.YtoookgkhelcngaaW.PrintWords Go.Proofs.YtoookgkhelcngaaW.PrintLast Go.Proofs.YtoookgkhelcngaaW.PrintMore
open Go.Shelf
set_option linter.unusedVariables false
set_option linter.unusedSimpArgs false

set_option maxRecDepth 100000 in
set_option maxHeartbeats 8000000 in
theorem at_23 (A : Option Addr) (c : Nat) (l : List S26) (n i : Int) (tb : Nat) (ib : Nat) (w : World) (hxl : l.length ≤ 1000000000 ∧ l.all (fun x => decide (x.f1.length ≤ 140737488355328)) = true)
    (hr : Kd.C k26 w A l.length l) (hc : l.length ≤ c) (hi : 0 ≤ i ∧ i < l.length) (Post : Bool → Value → Int → World → Prop)
    (hst : ∀ r v2 n2 W j u, Post r v2 n2 W → Post r v2 n2 (W.setCell ⟨w.heap.size + 1, j, none⟩ u))
    (hcl : ∀ W g cg, Below w.heap.size w W → w.heap.size + 1 < g → W.heap[w.heap.size + 1]? = some (.cells #[.slice (some ⟨g, 0, none⟩) l.length cg, .int .i64 n] 28 (0, 0)) → Kd.S k26 26 W w.heap.size (fun k => w.heap.size + 1 < k) (.slice (some ⟨g, 0, none⟩) l.length cg) l →
      Calls Try.prog 23 #[.pointer (some ⟨w.heap.size + 1, 0, none⟩), .pointer (some ⟨g, i.toNat * 3, none⟩), .pointer (some ⟨tb, 0, none⟩), .pointer (some ⟨ib, 0, none⟩)] W fun e W' => ∃ r A2 m2 c2 n2, e = .returned (.bool r) ∧ W'.heap[w.heap.size + 1]? = some (.cells #[.slice A2 m2 c2, .int .i64 n2] 28 (0, 0)) ∧ Post r (.slice A2 m2 c2) n2 W') :
    Calls Try.prog 22 #[.agg #[.slice A l.length c, .int .i64 n], .int .i64 i, .func (.func 23) #[] #[.pointer (some ⟨tb, 0, none⟩), .pointer (some ⟨ib, 0, none⟩)]] w fun e w' => ∃ r v2 n2, e = .returned (.tuple #[.agg #[v2, .int .i64 n2], .int .i64 (if r then 0 else 2)]) ∧ Post r v2 n2 w' := by
  have HR := Aside0.mk hr
  have HC := Aside0.mk hc
  have HXL := Aside0.mk hxl
  have HST := Aside0.mk hst
  have HCL := Aside0.mk hcl
  clear hr hc hxl hst hcl
  go_enter Try.func22, Try.ntmps22
  go_wp2
  refine wp_scope_once 0 rfl ?_
  go_wp2_with (go_at_call 16; refine Stop.out ?_)
  refine ⟨?_⟩
  refine (bag_Own.calls A c l n l n _ (Kd.C_below HR.out (below_alloc (below_alloc (Below.refl _ _) _) _)) HC.out (by unfold bag_Own.f; rw [if_pos HXL.out])).mono ?_
  rintro e w1 ⟨v1, rfl, hS1, hb1⟩
  obtain ⟨Av, cv, rfl⟩ := Kd.S_slice hS1
  have hbR : w1.heap[w.heap.size + 1]? = some (.cells #[.slice none 0 0, .int .i64 0] 28 (0, 0)) := (hb1.block _ (by simp)).trans (by have := World.alloc_heap_new (w.alloc (Obj.cells #[Value.slice A l.length c, Value.int IntKind.i64 n] 28)) (Obj.cells #[Value.slice none 0 0, Value.int IntKind.i64 0] 28); rwa [World.size_alloc] at this)
  have hBw : Below w.heap.size w w1 := (below_alloc (below_alloc (Below.refl _ w) _) _).trans (hb1.mono (by simp; omega))
  have hS2 : Kd.S k26 26 w1 w.heap.size (fun k => w.heap.size + 1 < k) (.slice Av l.length cv) l := Kd.S_lower (Kd.S_mono (Kd.S_bound hS1) (fun k hk => by have := hk.2.1; simp at this; omega)) (by simp; omega)
  have hq0 : w1.cell? ⟨w.heap.size + 1, 0, none⟩ = some (.slice none 0 0) := (blk_cell hbR 0).trans rfl
  have hq1 : w1.cell? ⟨w.heap.size + 1, 1, none⟩ = some (.int .i64 0) := (blk_cell hbR 1).trans rfl
  have hf0 := blk_frozen hbR 0
  have hf1 := blk_frozen hbR 1
  have HBR := Aside0.mk hbR
  have HBW := Aside0.mk hBw
  have HS2 := Aside0.mk hS2
  clear hS1 hb1 hbR hBw hS2
  dsimp only
  go_upto_region 2 with (fail)
  obtain ⟨W2, hW2⟩ : ∃ W2, ((w1.setCell ⟨w.heap.size + 1, 0, none⟩ (.slice Av l.length cv)).setCell ⟨w.heap.size + 1, 1, none⟩ (.int .i64 n)) = W2 := ⟨_, rfl⟩
  have hb2 : W2.heap[w.heap.size + 1]? = some (.cells #[.slice Av l.length cv, .int .i64 n] 28 (0, 0)) := by rw [← hW2]; exact blk_put (cs := #[.slice Av l.length cv, .int .i64 0]) (blk_put (cs := #[.slice none 0 0, .int .i64 0]) HBR.out 0 _ rfl) 1 _ rfl
  have hB2 : Below w.heap.size w W2 := by rw [← hW2]; exact (HBW.out.setCell (p := ⟨w.heap.size + 1, 0, none⟩) (by show w.heap.size ≤ w.heap.size + 1; omega) _).setCell (p := ⟨w.heap.size + 1, 1, none⟩) (by show w.heap.size ≤ w.heap.size + 1; omega) _
  have hS3 : Kd.S k26 26 W2 w.heap.size (fun k => w.heap.size + 1 < k) (.slice Av l.length cv) l := by
    rw [← hW2]
    exact Kd.S_far (p := ⟨w.heap.size + 1, 1, none⟩) (Kd.S_far (p := ⟨w.heap.size + 1, 0, none⟩) HS2.out (fun k hk => by show k ≠ w.heap.size + 1; omega) _) (fun k hk => by show k ≠ w.heap.size + 1; omega) _
  rw [hW2]
  clear hW2 hq0 hq1 hf0 hf1
  have hq0 : W2.cell? ⟨w.heap.size + 1, 0, none⟩ = some (.slice Av l.length cv) := (blk_cell hb2 0).trans rfl
  have hq1 : W2.cell? ⟨w.heap.size + 1, 1, none⟩ = some (.int .i64 n) := (blk_cell hb2 1).trans rfl
  have hf0 := blk_frozen hb2 0
  have hf1 := blk_frozen hb2 1
  have HB2 := Aside0.mk hb2
  have HBB := Aside0.mk hB2
  have HS3 := Aside0.mk hS3
  clear hb2 hB2 hS3
  have hi0 : 0 ≤ i := hi.1
  have hi1 : i < (l.length : Int) := hi.2
  have hi2 : (i < 0) = False := eq_false (by omega)
  have hi3 : ((l.length : Int) ≤ i) = False := eq_false (by omega)
  obtain ⟨g, cg, eg, hgb, hgl, _⟩ := Kd.S_form HS3.out (by omega)
  injection eg with e1 e2 e3
  subst e1
  subst e3
  have hgo := (Kd.S_R HS3.out).1 g rfl
  have HCC := Aside0.mk (HCL.out W2 g cv HBB.out hgo HB2.out HS3.out)
  clear hi hgb hgl e2 HCL HR HC HXL HS2 HS3 HBR HBW
  go_wp2_with (go_at_call 23; refine Stop.out ?_)
  refine ⟨?_⟩
  refine HCC.out.mono ?_
  rintro e w5 ⟨r, A2, m2, c2, n2, rfl, hbx, hp⟩
  have hp0 : w5.cell? ⟨w.heap.size + 1, 0, none⟩ = some (.slice A2 m2 c2) := (blk_cell hbx 0).trans rfl
  have hp1 : w5.cell? ⟨w.heap.size + 1, 1, none⟩ = some (.int .i64 n2) := (blk_cell hbx 1).trans rfl
  have hg0 := blk_frozen hbx 0
  have hg1 := blk_frozen hbx 1
  have HBX := Aside0.mk hbx
  have HP := Aside0.mk hp
  clear hbx hp hq0 hq1 hf0 hf1 HBB HB2 HCC
  dsimp only
  cases r with
  | true =>
    go_wp2
    rw [Exit.jump_ret]
    refine bodyPost_ret (results_list (rs := [.cell 6 28, .tmp 7]) rfl (by simp) (.cell (w.heap.size + 1) 28 #[.slice A2 m2 c2, .int .i64 n2] (0, 0) _ rfl (blk_put (cs := #[.slice A2 m2 c2, .int .i64 n2]) (blk_put (cs := #[.slice A2 m2 c2, .int .i64 n2]) HBX.out 0 _ rfl) 1 _ rfl) Try.underlying28 rfl (by kernel_rfl) (.tmp .nil))) rfl ?_
    exact ⟨true, _, _, rfl, HST.out _ _ _ _ _ _ (HST.out _ _ _ _ _ _ HP.out)⟩
  | false =>
    go_wp2
    refine wp_label ?_
    go_wp2
    rw [Exit.jump_ret]
    refine bodyPost_ret (results_list (rs := [.cell 6 28, .tmp 7]) rfl (by simp) (.cell (w.heap.size + 1) 28 #[.slice A2 m2 c2, .int .i64 n2] (0, 0) _ rfl (blk_put (cs := #[.slice A2 m2 c2, .int .i64 n2]) (blk_put (cs := #[.slice A2 m2 c2, .int .i64 n2]) HBX.out 0 _ rfl) 1 _ rfl) Try.underlying28 rfl (by kernel_rfl) (.tmp .nil))) rfl ?_
    exact ⟨false, _, _, rfl, HST.out _ _ _ _ _ _ (HST.out _ _ _ _ _ _ HP.out)⟩

set_option maxRecDepth 100000 in
set_option maxHeartbeats 8000000 in
theorem at_26 (A : Option Addr) (c : Nat) (l : List S26) (n i : Int) (ib : Nat) (w : World) (hxl : l.length ≤ 1000000000 ∧ l.all (fun x => decide (x.f1.length ≤ 140737488355328)) = true)
    (hr : Kd.C k26 w A l.length l) (hc : l.length ≤ c) (hi : 0 ≤ i ∧ i < l.length) (Post : Bool → Value → Int → World → Prop)
    (hst : ∀ r v2 n2 W j u, Post r v2 n2 W → Post r v2 n2 (W.setCell ⟨w.heap.size + 1, j, none⟩ u))
    (hcl : ∀ W g cg, Below w.heap.size w W → w.heap.size + 1 < g → W.heap[w.heap.size + 1]? = some (.cells #[.slice (some ⟨g, 0, none⟩) l.length cg, .int .i64 n] 28 (0, 0)) → Kd.S k26 26 W w.heap.size (fun k => w.heap.size + 1 < k) (.slice (some ⟨g, 0, none⟩) l.length cg) l →
      Calls Try.prog 26 #[.pointer (some ⟨w.heap.size + 1, 0, none⟩), .pointer (some ⟨g, i.toNat * 3, none⟩), .pointer (some ⟨ib, 0, none⟩)] W fun e W' => ∃ r A2 m2 c2 n2, e = .returned (.bool r) ∧ W'.heap[w.heap.size + 1]? = some (.cells #[.slice A2 m2 c2, .int .i64 n2] 28 (0, 0)) ∧ Post r (.slice A2 m2 c2) n2 W') :
    Calls Try.prog 22 #[.agg #[.slice A l.length c, .int .i64 n], .int .i64 i, .func (.func 26) #[] #[.pointer (some ⟨ib, 0, none⟩)]] w fun e w' => ∃ r v2 n2, e = .returned (.tuple #[.agg #[v2, .int .i64 n2], .int .i64 (if r then 0 else 2)]) ∧ Post r v2 n2 w' := by
  have HR := Aside0.mk hr
  have HC := Aside0.mk hc
  have HXL := Aside0.mk hxl
  have HST := Aside0.mk hst
  have HCL := Aside0.mk hcl
  clear hr hc hxl hst hcl
  go_enter Try.func22, Try.ntmps22
  go_wp2
  refine wp_scope_once 0 rfl ?_
  go_wp2_with (go_at_call 16; refine Stop.out ?_)
  refine ⟨?_⟩
  refine (bag_Own.calls A c l n l n _ (Kd.C_below HR.out (below_alloc (below_alloc (Below.refl _ _) _) _)) HC.out (by unfold bag_Own.f; rw [if_pos HXL.out])).mono ?_
  rintro e w1 ⟨v1, rfl, hS1, hb1⟩
  obtain ⟨Av, cv, rfl⟩ := Kd.S_slice hS1
  have hbR : w1.heap[w.heap.size + 1]? = some (.cells #[.slice none 0 0, .int .i64 0] 28 (0, 0)) := (hb1.block _ (by simp)).trans (by have := World.alloc_heap_new (w.alloc (Obj.cells #[Value.slice A l.length c, Value.int IntKind.i64 n] 28)) (Obj.cells #[Value.slice none 0 0, Value.int IntKind.i64 0] 28); rwa [World.size_alloc] at this)
  have hBw : Below w.heap.size w w1 := (below_alloc (below_alloc (Below.refl _ w) _) _).trans (hb1.mono (by simp; omega))
  have hS2 : Kd.S k26 26 w1 w.heap.size (fun k => w.heap.size + 1 < k) (.slice Av l.length cv) l := Kd.S_lower (Kd.S_mono (Kd.S_bound hS1) (fun k hk => by have := hk.2.1; simp at this; omega)) (by simp; omega)
  have hq0 : w1.cell? ⟨w.heap.size + 1, 0, none⟩ = some (.slice none 0 0) := (blk_cell hbR 0).trans rfl
  have hq1 : w1.cell? ⟨w.heap.size + 1, 1, none⟩ = some (.int .i64 0) := (blk_cell hbR 1).trans rfl
  have hf0 := blk_frozen hbR 0
  have hf1 := blk_frozen hbR 1
  have HBR := Aside0.mk hbR
  have HBW := Aside0.mk hBw
  have HS2 := Aside0.mk hS2
  clear hS1 hb1 hbR hBw hS2
  dsimp only
  go_upto_region 2 with (fail)
  obtain ⟨W2, hW2⟩ : ∃ W2, ((w1.setCell ⟨w.heap.size + 1, 0, none⟩ (.slice Av l.length cv)).setCell ⟨w.heap.size + 1, 1, none⟩ (.int .i64 n)) = W2 := ⟨_, rfl⟩
  have hb2 : W2.heap[w.heap.size + 1]? = some (.cells #[.slice Av l.length cv, .int .i64 n] 28 (0, 0)) := by rw [← hW2]; exact blk_put (cs := #[.slice Av l.length cv, .int .i64 0]) (blk_put (cs := #[.slice none 0 0, .int .i64 0]) HBR.out 0 _ rfl) 1 _ rfl
  have hB2 : Below w.heap.size w W2 := by rw [← hW2]; exact (HBW.out.setCell (p := ⟨w.heap.size + 1, 0, none⟩) (by show w.heap.size ≤ w.heap.size + 1; omega) _).setCell (p := ⟨w.heap.size + 1, 1, none⟩) (by show w.heap.size ≤ w.heap.size + 1; omega) _
  have hS3 : Kd.S k26 26 W2 w.heap.size (fun k => w.heap.size + 1 < k) (.slice Av l.length cv) l := by
    rw [← hW2]
    exact Kd.S_far (p := ⟨w.heap.size + 1, 1, none⟩) (Kd.S_far (p := ⟨w.heap.size + 1, 0, none⟩) HS2.out (fun k hk => by show k ≠ w.heap.size + 1; omega) _) (fun k hk => by show k ≠ w.heap.size + 1; omega) _
  rw [hW2]
  clear hW2 hq0 hq1 hf0 hf1
  have hq0 : W2.cell? ⟨w.heap.size + 1, 0, none⟩ = some (.slice Av l.length cv) := (blk_cell hb2 0).trans rfl
  have hq1 : W2.cell? ⟨w.heap.size + 1, 1, none⟩ = some (.int .i64 n) := (blk_cell hb2 1).trans rfl
  have hf0 := blk_frozen hb2 0
  have hf1 := blk_frozen hb2 1
  have HB2 := Aside0.mk hb2
  have HBB := Aside0.mk hB2
  have HS3 := Aside0.mk hS3
  clear hb2 hB2 hS3
  have hi0 : 0 ≤ i := hi.1
  have hi1 : i < (l.length : Int) := hi.2
  have hi2 : (i < 0) = False := eq_false (by omega)
  have hi3 : ((l.length : Int) ≤ i) = False := eq_false (by omega)
  obtain ⟨g, cg, eg, hgb, hgl, _⟩ := Kd.S_form HS3.out (by omega)
  injection eg with e1 e2 e3
  subst e1
  subst e3
  have hgo := (Kd.S_R HS3.out).1 g rfl
  have HCC := Aside0.mk (HCL.out W2 g cv HBB.out hgo HB2.out HS3.out)
  clear hi hgb hgl e2 HCL HR HC HXL HS2 HS3 HBR HBW
  go_wp2_with (go_at_call 26; refine Stop.out ?_)
  refine ⟨?_⟩
  refine HCC.out.mono ?_
  rintro e w5 ⟨r, A2, m2, c2, n2, rfl, hbx, hp⟩
  have hp0 : w5.cell? ⟨w.heap.size + 1, 0, none⟩ = some (.slice A2 m2 c2) := (blk_cell hbx 0).trans rfl
  have hp1 : w5.cell? ⟨w.heap.size + 1, 1, none⟩ = some (.int .i64 n2) := (blk_cell hbx 1).trans rfl
  have hg0 := blk_frozen hbx 0
  have hg1 := blk_frozen hbx 1
  have HBX := Aside0.mk hbx
  have HP := Aside0.mk hp
  clear hbx hp hq0 hq1 hf0 hf1 HBB HB2 HCC
  dsimp only
  cases r with
  | true =>
    go_wp2
    rw [Exit.jump_ret]
    refine bodyPost_ret (results_list (rs := [.cell 6 28, .tmp 7]) rfl (by simp) (.cell (w.heap.size + 1) 28 #[.slice A2 m2 c2, .int .i64 n2] (0, 0) _ rfl (blk_put (cs := #[.slice A2 m2 c2, .int .i64 n2]) (blk_put (cs := #[.slice A2 m2 c2, .int .i64 n2]) HBX.out 0 _ rfl) 1 _ rfl) Try.underlying28 rfl (by kernel_rfl) (.tmp .nil))) rfl ?_
    exact ⟨true, _, _, rfl, HST.out _ _ _ _ _ _ (HST.out _ _ _ _ _ _ HP.out)⟩
  | false =>
    go_wp2
    refine wp_label ?_
    go_wp2
    rw [Exit.jump_ret]
    refine bodyPost_ret (results_list (rs := [.cell 6 28, .tmp 7]) rfl (by simp) (.cell (w.heap.size + 1) 28 #[.slice A2 m2 c2, .int .i64 n2] (0, 0) _ rfl (blk_put (cs := #[.slice A2 m2 c2, .int .i64 n2]) (blk_put (cs := #[.slice A2 m2 c2, .int .i64 n2]) HBX.out 0 _ rfl) 1 _ rfl) Try.underlying28 rfl (by kernel_rfl) (.tmp .nil))) rfl ?_
    exact ⟨false, _, _, rfl, HST.out _ _ _ _ _ _ (HST.out _ _ _ _ _ _ HP.out)⟩

set_option maxRecDepth 100000 in
set_option maxHeartbeats 8000000 in
theorem at_27 (A : Option Addr) (c : Nat) (l : List S26) (n i : Int)  (w : World) (hxl : l.length ≤ 1000000000 ∧ l.all (fun x => decide (x.f1.length ≤ 140737488355328)) = true)
    (hr : Kd.C k26 w A l.length l) (hc : l.length ≤ c) (hi : 0 ≤ i ∧ i < l.length) (Post : Bool → Value → Int → World → Prop)
    (hst : ∀ r v2 n2 W j u, Post r v2 n2 W → Post r v2 n2 (W.setCell ⟨w.heap.size + 1, j, none⟩ u))
    (hcl : ∀ W g cg, Below w.heap.size w W → w.heap.size + 1 < g → W.heap[w.heap.size + 1]? = some (.cells #[.slice (some ⟨g, 0, none⟩) l.length cg, .int .i64 n] 28 (0, 0)) → Kd.S k26 26 W w.heap.size (fun k => w.heap.size + 1 < k) (.slice (some ⟨g, 0, none⟩) l.length cg) l →
      Calls Try.prog 27 #[.pointer (some ⟨w.heap.size + 1, 0, none⟩), .pointer (some ⟨g, i.toNat * 3, none⟩)] W fun e W' => ∃ r A2 m2 c2 n2, e = .returned (.bool r) ∧ W'.heap[w.heap.size + 1]? = some (.cells #[.slice A2 m2 c2, .int .i64 n2] 28 (0, 0)) ∧ Post r (.slice A2 m2 c2) n2 W') :
    Calls Try.prog 22 #[.agg #[.slice A l.length c, .int .i64 n], .int .i64 i, .func (.func 27) #[] #[]] w fun e w' => ∃ r v2 n2, e = .returned (.tuple #[.agg #[v2, .int .i64 n2], .int .i64 (if r then 0 else 2)]) ∧ Post r v2 n2 w' := by
  have HR := Aside0.mk hr
  have HC := Aside0.mk hc
  have HXL := Aside0.mk hxl
  have HST := Aside0.mk hst
  have HCL := Aside0.mk hcl
  clear hr hc hxl hst hcl
  go_enter Try.func22, Try.ntmps22
  go_wp2
  refine wp_scope_once 0 rfl ?_
  go_wp2_with (go_at_call 16; refine Stop.out ?_)
  refine ⟨?_⟩
  refine (bag_Own.calls A c l n l n _ (Kd.C_below HR.out (below_alloc (below_alloc (Below.refl _ _) _) _)) HC.out (by unfold bag_Own.f; rw [if_pos HXL.out])).mono ?_
  rintro e w1 ⟨v1, rfl, hS1, hb1⟩
  obtain ⟨Av, cv, rfl⟩ := Kd.S_slice hS1
  have hbR : w1.heap[w.heap.size + 1]? = some (.cells #[.slice none 0 0, .int .i64 0] 28 (0, 0)) := (hb1.block _ (by simp)).trans (by have := World.alloc_heap_new (w.alloc (Obj.cells #[Value.slice A l.length c, Value.int IntKind.i64 n] 28)) (Obj.cells #[Value.slice none 0 0, Value.int IntKind.i64 0] 28); rwa [World.size_alloc] at this)
  have hBw : Below w.heap.size w w1 := (below_alloc (below_alloc (Below.refl _ w) _) _).trans (hb1.mono (by simp; omega))
  have hS2 : Kd.S k26 26 w1 w.heap.size (fun k => w.heap.size + 1 < k) (.slice Av l.length cv) l := Kd.S_lower (Kd.S_mono (Kd.S_bound hS1) (fun k hk => by have := hk.2.1; simp at this; omega)) (by simp; omega)
  have hq0 : w1.cell? ⟨w.heap.size + 1, 0, none⟩ = some (.slice none 0 0) := (blk_cell hbR 0).trans rfl
  have hq1 : w1.cell? ⟨w.heap.size + 1, 1, none⟩ = some (.int .i64 0) := (blk_cell hbR 1).trans rfl
  have hf0 := blk_frozen hbR 0
  have hf1 := blk_frozen hbR 1
  have HBR := Aside0.mk hbR
  have HBW := Aside0.mk hBw
  have HS2 := Aside0.mk hS2
  clear hS1 hb1 hbR hBw hS2
  dsimp only
  go_upto_region 2 with (fail)
  obtain ⟨W2, hW2⟩ : ∃ W2, ((w1.setCell ⟨w.heap.size + 1, 0, none⟩ (.slice Av l.length cv)).setCell ⟨w.heap.size + 1, 1, none⟩ (.int .i64 n)) = W2 := ⟨_, rfl⟩
  have hb2 : W2.heap[w.heap.size + 1]? = some (.cells #[.slice Av l.length cv, .int .i64 n] 28 (0, 0)) := by rw [← hW2]; exact blk_put (cs := #[.slice Av l.length cv, .int .i64 0]) (blk_put (cs := #[.slice none 0 0, .int .i64 0]) HBR.out 0 _ rfl) 1 _ rfl
  have hB2 : Below w.heap.size w W2 := by rw [← hW2]; exact (HBW.out.setCell (p := ⟨w.heap.size + 1, 0, none⟩) (by show w.heap.size ≤ w.heap.size + 1; omega) _).setCell (p := ⟨w.heap.size + 1, 1, none⟩) (by show w.heap.size ≤ w.heap.size + 1; omega) _
  have hS3 : Kd.S k26 26 W2 w.heap.size (fun k => w.heap.size + 1 < k) (.slice Av l.length cv) l := by
    rw [← hW2]
    exact Kd.S_far (p := ⟨w.heap.size + 1, 1, none⟩) (Kd.S_far (p := ⟨w.heap.size + 1, 0, none⟩) HS2.out (fun k hk => by show k ≠ w.heap.size + 1; omega) _) (fun k hk => by show k ≠ w.heap.size + 1; omega) _
  rw [hW2]
  clear hW2 hq0 hq1 hf0 hf1
  have hq0 : W2.cell? ⟨w.heap.size + 1, 0, none⟩ = some (.slice Av l.length cv) := (blk_cell hb2 0).trans rfl
  have hq1 : W2.cell? ⟨w.heap.size + 1, 1, none⟩ = some (.int .i64 n) := (blk_cell hb2 1).trans rfl
  have hf0 := blk_frozen hb2 0
  have hf1 := blk_frozen hb2 1
  have HB2 := Aside0.mk hb2
  have HBB := Aside0.mk hB2
  have HS3 := Aside0.mk hS3
  clear hb2 hB2 hS3
  have hi0 : 0 ≤ i := hi.1
  have hi1 : i < (l.length : Int) := hi.2
  have hi2 : (i < 0) = False := eq_false (by omega)
  have hi3 : ((l.length : Int) ≤ i) = False := eq_false (by omega)
  obtain ⟨g, cg, eg, hgb, hgl, _⟩ := Kd.S_form HS3.out (by omega)
  injection eg with e1 e2 e3
  subst e1
  subst e3
  have hgo := (Kd.S_R HS3.out).1 g rfl
  have HCC := Aside0.mk (HCL.out W2 g cv HBB.out hgo HB2.out HS3.out)
  clear hi hgb hgl e2 HCL HR HC HXL HS2 HS3 HBR HBW
  go_wp2_with (go_at_call 27; refine Stop.out ?_)
  refine ⟨?_⟩
  refine HCC.out.mono ?_
  rintro e w5 ⟨r, A2, m2, c2, n2, rfl, hbx, hp⟩
  have hp0 : w5.cell? ⟨w.heap.size + 1, 0, none⟩ = some (.slice A2 m2 c2) := (blk_cell hbx 0).trans rfl
  have hp1 : w5.cell? ⟨w.heap.size + 1, 1, none⟩ = some (.int .i64 n2) := (blk_cell hbx 1).trans rfl
  have hg0 := blk_frozen hbx 0
  have hg1 := blk_frozen hbx 1
  have HBX := Aside0.mk hbx
  have HP := Aside0.mk hp
  clear hbx hp hq0 hq1 hf0 hf1 HBB HB2 HCC
  dsimp only
  cases r with
  | true =>
    go_wp2
    rw [Exit.jump_ret]
    refine bodyPost_ret (results_list (rs := [.cell 6 28, .tmp 7]) rfl (by simp) (.cell (w.heap.size + 1) 28 #[.slice A2 m2 c2, .int .i64 n2] (0, 0) _ rfl (blk_put (cs := #[.slice A2 m2 c2, .int .i64 n2]) (blk_put (cs := #[.slice A2 m2 c2, .int .i64 n2]) HBX.out 0 _ rfl) 1 _ rfl) Try.underlying28 rfl (by kernel_rfl) (.tmp .nil))) rfl ?_
    exact ⟨true, _, _, rfl, HST.out _ _ _ _ _ _ (HST.out _ _ _ _ _ _ HP.out)⟩
  | false =>
    go_wp2
    refine wp_label ?_
    go_wp2
    rw [Exit.jump_ret]
    refine bodyPost_ret (results_list (rs := [.cell 6 28, .tmp 7]) rfl (by simp) (.cell (w.heap.size + 1) 28 #[.slice A2 m2 c2, .int .i64 n2] (0, 0) _ rfl (blk_put (cs := #[.slice A2 m2 c2, .int .i64 n2]) (blk_put (cs := #[.slice A2 m2 c2, .int .i64 n2]) HBX.out 0 _ rfl) 1 _ rfl) Try.underlying28 rfl (by kernel_rfl) (.tmp .nil))) rfl ?_
    exact ⟨false, _, _, rfl, HST.out _ _ _ _ _ _ (HST.out _ _ _ _ _ _ HP.out)⟩

set_option maxRecDepth 100000 in
set_option maxHeartbeats 8000000 in
theorem at_28 (A : Option Addr) (c : Nat) (l : List S26) (n i : Int) (kb : Nat) (yb : Nat) (w : World) (hxl : l.length ≤ 1000000000 ∧ l.all (fun x => decide (x.f1.length ≤ 140737488355328)) = true)
    (hr : Kd.C k26 w A l.length l) (hc : l.length ≤ c) (hi : 0 ≤ i ∧ i < l.length) (Post : Bool → Value → Int → World → Prop)
    (hst : ∀ r v2 n2 W j u, Post r v2 n2 W → Post r v2 n2 (W.setCell ⟨w.heap.size + 1, j, none⟩ u))
    (hcl : ∀ W g cg, Below w.heap.size w W → w.heap.size + 1 < g → W.heap[w.heap.size + 1]? = some (.cells #[.slice (some ⟨g, 0, none⟩) l.length cg, .int .i64 n] 28 (0, 0)) → Kd.S k26 26 W w.heap.size (fun k => w.heap.size + 1 < k) (.slice (some ⟨g, 0, none⟩) l.length cg) l →
      Calls Try.prog 28 #[.pointer (some ⟨w.heap.size + 1, 0, none⟩), .pointer (some ⟨g, i.toNat * 3, none⟩), .pointer (some ⟨kb, 0, none⟩), .pointer (some ⟨yb, 0, none⟩)] W fun e W' => ∃ r A2 m2 c2 n2, e = .returned (.bool r) ∧ W'.heap[w.heap.size + 1]? = some (.cells #[.slice A2 m2 c2, .int .i64 n2] 28 (0, 0)) ∧ Post r (.slice A2 m2 c2) n2 W') :
    Calls Try.prog 22 #[.agg #[.slice A l.length c, .int .i64 n], .int .i64 i, .func (.func 28) #[] #[.pointer (some ⟨kb, 0, none⟩), .pointer (some ⟨yb, 0, none⟩)]] w fun e w' => ∃ r v2 n2, e = .returned (.tuple #[.agg #[v2, .int .i64 n2], .int .i64 (if r then 0 else 2)]) ∧ Post r v2 n2 w' := by
  have HR := Aside0.mk hr
  have HC := Aside0.mk hc
  have HXL := Aside0.mk hxl
  have HST := Aside0.mk hst
  have HCL := Aside0.mk hcl
  clear hr hc hxl hst hcl
  go_enter Try.func22, Try.ntmps22
  go_wp2
  refine wp_scope_once 0 rfl ?_
  go_wp2_with (go_at_call 16; refine Stop.out ?_)
  refine ⟨?_⟩
  refine (bag_Own.calls A c l n l n _ (Kd.C_below HR.out (below_alloc (below_alloc (Below.refl _ _) _) _)) HC.out (by unfold bag_Own.f; rw [if_pos HXL.out])).mono ?_
  rintro e w1 ⟨v1, rfl, hS1, hb1⟩
  obtain ⟨Av, cv, rfl⟩ := Kd.S_slice hS1
  have hbR : w1.heap[w.heap.size + 1]? = some (.cells #[.slice none 0 0, .int .i64 0] 28 (0, 0)) := (hb1.block _ (by simp)).trans (by have := World.alloc_heap_new (w.alloc (Obj.cells #[Value.slice A l.length c, Value.int IntKind.i64 n] 28)) (Obj.cells #[Value.slice none 0 0, Value.int IntKind.i64 0] 28); rwa [World.size_alloc] at this)
  have hBw : Below w.heap.size w w1 := (below_alloc (below_alloc (Below.refl _ w) _) _).trans (hb1.mono (by simp; omega))
  have hS2 : Kd.S k26 26 w1 w.heap.size (fun k => w.heap.size + 1 < k) (.slice Av l.length cv) l := Kd.S_lower (Kd.S_mono (Kd.S_bound hS1) (fun k hk => by have := hk.2.1; simp at this; omega)) (by simp; omega)
  have hq0 : w1.cell? ⟨w.heap.size + 1, 0, none⟩ = some (.slice none 0 0) := (blk_cell hbR 0).trans rfl
  have hq1 : w1.cell? ⟨w.heap.size + 1, 1, none⟩ = some (.int .i64 0) := (blk_cell hbR 1).trans rfl
  have hf0 := blk_frozen hbR 0
  have hf1 := blk_frozen hbR 1
  have HBR := Aside0.mk hbR
  have HBW := Aside0.mk hBw
  have HS2 := Aside0.mk hS2
  clear hS1 hb1 hbR hBw hS2
  dsimp only
  go_upto_region 2 with (fail)
  obtain ⟨W2, hW2⟩ : ∃ W2, ((w1.setCell ⟨w.heap.size + 1, 0, none⟩ (.slice Av l.length cv)).setCell ⟨w.heap.size + 1, 1, none⟩ (.int .i64 n)) = W2 := ⟨_, rfl⟩
  have hb2 : W2.heap[w.heap.size + 1]? = some (.cells #[.slice Av l.length cv, .int .i64 n] 28 (0, 0)) := by rw [← hW2]; exact blk_put (cs := #[.slice Av l.length cv, .int .i64 0]) (blk_put (cs := #[.slice none 0 0, .int .i64 0]) HBR.out 0 _ rfl) 1 _ rfl
  have hB2 : Below w.heap.size w W2 := by rw [← hW2]; exact (HBW.out.setCell (p := ⟨w.heap.size + 1, 0, none⟩) (by show w.heap.size ≤ w.heap.size + 1; omega) _).setCell (p := ⟨w.heap.size + 1, 1, none⟩) (by show w.heap.size ≤ w.heap.size + 1; omega) _
  have hS3 : Kd.S k26 26 W2 w.heap.size (fun k => w.heap.size + 1 < k) (.slice Av l.length cv) l := by
    rw [← hW2]
    exact Kd.S_far (p := ⟨w.heap.size + 1, 1, none⟩) (Kd.S_far (p := ⟨w.heap.size + 1, 0, none⟩) HS2.out (fun k hk => by show k ≠ w.heap.size + 1; omega) _) (fun k hk => by show k ≠ w.heap.size + 1; omega) _
  rw [hW2]
  clear hW2 hq0 hq1 hf0 hf1
  have hq0 : W2.cell? ⟨w.heap.size + 1, 0, none⟩ = some (.slice Av l.length cv) := (blk_cell hb2 0).trans rfl
  have hq1 : W2.cell? ⟨w.heap.size + 1, 1, none⟩ = some (.int .i64 n) := (blk_cell hb2 1).trans rfl
  have hf0 := blk_frozen hb2 0
  have hf1 := blk_frozen hb2 1
  have HB2 := Aside0.mk hb2
  have HBB := Aside0.mk hB2
  have HS3 := Aside0.mk hS3
  clear hb2 hB2 hS3
  have hi0 : 0 ≤ i := hi.1
  have hi1 : i < (l.length : Int) := hi.2
  have hi2 : (i < 0) = False := eq_false (by omega)
  have hi3 : ((l.length : Int) ≤ i) = False := eq_false (by omega)
  obtain ⟨g, cg, eg, hgb, hgl, _⟩ := Kd.S_form HS3.out (by omega)
  injection eg with e1 e2 e3
  subst e1
  subst e3
  have hgo := (Kd.S_R HS3.out).1 g rfl
  have HCC := Aside0.mk (HCL.out W2 g cv HBB.out hgo HB2.out HS3.out)
  clear hi hgb hgl e2 HCL HR HC HXL HS2 HS3 HBR HBW
  go_wp2_with (go_at_call 28; refine Stop.out ?_)
  refine ⟨?_⟩
  refine HCC.out.mono ?_
  rintro e w5 ⟨r, A2, m2, c2, n2, rfl, hbx, hp⟩
  have hp0 : w5.cell? ⟨w.heap.size + 1, 0, none⟩ = some (.slice A2 m2 c2) := (blk_cell hbx 0).trans rfl
  have hp1 : w5.cell? ⟨w.heap.size + 1, 1, none⟩ = some (.int .i64 n2) := (blk_cell hbx 1).trans rfl
  have hg0 := blk_frozen hbx 0
  have hg1 := blk_frozen hbx 1
  have HBX := Aside0.mk hbx
  have HP := Aside0.mk hp
  clear hbx hp hq0 hq1 hf0 hf1 HBB HB2 HCC
  dsimp only
  cases r with
  | true =>
    go_wp2
    rw [Exit.jump_ret]
    refine bodyPost_ret (results_list (rs := [.cell 6 28, .tmp 7]) rfl (by simp) (.cell (w.heap.size + 1) 28 #[.slice A2 m2 c2, .int .i64 n2] (0, 0) _ rfl (blk_put (cs := #[.slice A2 m2 c2, .int .i64 n2]) (blk_put (cs := #[.slice A2 m2 c2, .int .i64 n2]) HBX.out 0 _ rfl) 1 _ rfl) Try.underlying28 rfl (by kernel_rfl) (.tmp .nil))) rfl ?_
    exact ⟨true, _, _, rfl, HST.out _ _ _ _ _ _ (HST.out _ _ _ _ _ _ HP.out)⟩
  | false =>
    go_wp2
    refine wp_label ?_
    go_wp2
    rw [Exit.jump_ret]
    refine bodyPost_ret (results_list (rs := [.cell 6 28, .tmp 7]) rfl (by simp) (.cell (w.heap.size + 1) 28 #[.slice A2 m2 c2, .int .i64 n2] (0, 0) _ rfl (blk_put (cs := #[.slice A2 m2 c2, .int .i64 n2]) (blk_put (cs := #[.slice A2 m2 c2, .int .i64 n2]) HBX.out 0 _ rfl) 1 _ rfl) Try.underlying28 rfl (by kernel_rfl) (.tmp .nil))) rfl ?_
    exact ⟨false, _, _, rfl, HST.out _ _ _ _ _ _ (HST.out _ _ _ _ _ _ HP.out)⟩

end Go.Proofs.Ytoookgkhelcngaa.G
