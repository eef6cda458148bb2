/- What Take and Drop do to a bag's copy: a datagram is taken out of it. -/
import Derived.Test.YtoookgkhelcngaaH7
import Derived.Deep.DrawnRows
namespace Go.Proofs.Ytoookgkhelcngaa.G
open Go.RowKit Go.Proofs.YtoookgkhelcngaaW.PrintWords Go.Proofs.YtoookgkhelcngaaW.PrintLast Go.Proofs.YtoookgkhelcngaaW.PrintMore
open Go.Shelf
set_option linter.unusedVariables false
set_option linter.unusedSimpArgs false
attribute [local go_sem ↓] Go.wp_at_zero Go.wp_at_succ

theorem grownBy_new {w W : World} {row : Option Nat} (h : w.grownBy W row) {b : Nat} (hb : w.heap.size ≤ b) (j : Nat) (u : Value) : w.grownBy (W.setCell ⟨b, j, none⟩ u) row :=
  ⟨h.os, h.tape, h.output, by rw [World.size_setCell]; exact h.size, fun k hk hr => (Below.heap_setCell W ⟨b, j, none⟩ u k (by show k ≠ b; omega)).trans (h.block k hk hr)⟩
theorem grownBy_row {w W : World} {tb : Nat} (h : w.grownBy W (some tb)) (j : Nat) (u : Value) : w.grownBy (W.setCell ⟨tb, j, none⟩ u) (some tb) :=
  ⟨h.os, h.tape, h.output, by rw [World.size_setCell]; exact h.size, fun k hk hr => (Below.heap_setCell W ⟨tb, j, none⟩ u k (fun e => hr (by rw [e]))).trans (h.block k hk hr)⟩
theorem grownBy_below {w W W' : World} {row : Option Nat} (h : w.grownBy W row) (hb : Below W.heap.size W W') : w.grownBy W' row :=
  ⟨hb.os.trans h.os, hb.tape.trans h.tape, hb.output.trans h.output, Nat.le_trans h.size hb.size, fun k hk hr => (hb.block k (Nat.lt_of_lt_of_le hk h.size)).trans (h.block k hk hr)⟩

theorem cut_drop (t e : TypeId) (kl : IntKind) {i : TypeInfo} (ht : Try.prog.underlying t = some (.slice e)) (hi : Try.prog.info? e = some i) (hsz : i.size = 3) (A : Option Addr) (n c m : Nat) (hm : m ≤ n) :
    ∀ W : World, (Instr.slice t (.slice A n c) (some (.int kl (m : Int))) none none).run Try.prog W = .ok (.slice (if c = m then A else A.map (·.add (m * 3))) (n - m) (c - m)) W := by
  intro W
  have hel : Try.prog.elem t = e := by simp [Program.elem, ht]
  have hu : Try.prog.underlying t = some (.slice (Try.prog.elem t)) := by rw [hel]; exact ht
  rw [run_slice_l W t A n c hu kl (m : Int) (Int.natCast_nonneg _) (by omega), hel]
  simp [sizeOf, typeInfo, hi, hsz, sliced, Result.andThen]

theorem cell_keep {W W' : World} (hb : Below W.heap.size W W') {a : Addr} {v : Value} (h : W.cell? a = some v) : W'.cell? a = some v := (hb.cell (World.block_lt_of_cell? _ _ h)).trans h
/-- A row of cells out of which the m-th is taken, in new memory: what the others lead to lies as it lay. -/
theorem S_erased {f : Nat → Nat} {l : List S26} {m : Nat} {W W5 : World} {base N B0 : Nat} {v v4 : Value} {ok0 : Nat → Prop} {rows : List (List Value)} (hrl : rows.length = l.length)
    (hM : ∀ (j : Nat) (x : S26 × Nat) (c : List Value), l.zipIdx[j]? = some x → rows[j]? = some c → (Kd.tag f k26).M W base (fun k => N < k ∧ some k ≠ v.ownBlock) x c)
    (hsame : ∀ k, N < k → k < W.heap.size → W5.heap[k]? = W.heap[k]?) (hraw : (Kd.raw 3).R 26 W5 B0 ok0 v4 (rows.take m ++ rows.drop (m + 1))) (hB0 : base ≤ B0) (hWB : W.heap.size ≤ B0) :
    Kd.S k26 26 W5 base (fun k => (N < k ∧ k < W.heap.size ∧ f k ≠ m) ∨ B0 ≤ k) v4 (l.eraseIdx m) := by
  have hbase := Kd.R_base hraw
  rw [← List.eraseIdx_eq_take_drop_succ] at hraw
  refine Kd.S_erase (f := f) (k := m) (R_of_raws (d := Kd.tag f k26) hraw ?_ hB0 (fun k hk => .inr (hbase k hk)) ?_)
  · rw [List.length_eraseIdx, List.length_eraseIdx, List.length_zipIdx, hrl]
  · intro j x c hx hc
    obtain ⟨j', hj1, hj2, hne⟩ : ∃ j', l.zipIdx[j']? = some x ∧ rows[j']? = some c ∧ j' ≠ m := by
      rw [List.getElem?_eraseIdx] at hx hc
      by_cases h : j < m
      · rw [if_pos h] at hx hc
        exact ⟨j, hx, hc, by omega⟩
      · rw [if_neg h] at hx hc
        exact ⟨j + 1, hx, hc, by omega⟩
    have hx2 : x.2 = j' := by
      rw [List.getElem?_zipIdx] at hj1
      obtain ⟨q, _, rfl⟩ := Option.map_eq_some_iff.1 hj1
      simp
    have h := k26.M_bound (show k26.M W base (fun k => (N < k ∧ some k ≠ v.ownBlock) ∧ f k = x.2) x.1 c from hM j' x c hj1 hj2)
    have h2 := Kd.M_step h (fun k hk hlt => hsame k hk.1.1.1 hlt)
    exact k26.M_mono (fun k hk => ⟨⟨.inl ⟨hk.1.1.1, hk.2.2.1, by rw [hk.1.2, hx2]; exact hne⟩, fun e => by have := hbase k e.symm; have := hk.2.2.1; omega⟩, hk.1.2⟩) h2

/-- What Take's closure leaves. -/
def TakePost (w : World) (tb : Nat) (l : List S26) (n : Int) (m : Nat) (r : Bool) (v2 : Value) (n2 : Int) (W : World) : Prop :=
  r = true ∧ n2 = n ∧ w.grownBy W (some tb) ∧ ∃ A c, W.heap[tb]? = some (.cells #[.int .i64 (rd_T26 l m).f0, .slice A (rd_T26 l m).f1.length c, .bool (rd_T26 l m).f2] 26 (0, 0)) ∧
    (Kd.int .u8).R 5 W w.heap.size (fun k => w.heap.size + 1 < k) (.slice A (rd_T26 l m).f1.length c) (rd_T26 l m).f1 ∧
    Kd.S k26 26 W w.heap.size (fun k => w.heap.size + 1 < k ∧ some k ≠ (Value.slice A (rd_T26 l m).f1.length c).ownBlock) v2 (l.eraseIdx m)

set_option maxRecDepth 100000 in
set_option maxHeartbeats 8000000 in
theorem take1 (w W : World) (tb ib g cg : Nat) (l : List S26) (n i : Int) (hi : 0 ≤ i ∧ i < l.length) (hl : l.length ≤ 1000000) (htw : tb < w.heap.size) (hiw : ib < w.heap.size) (hti : tb ≠ ib) (hB : Below w.heap.size w W) (hg : w.heap.size + 1 < g)
    (hob : W.heap[w.heap.size + 1]? = some (.cells #[.slice (some ⟨g, 0, none⟩) l.length cg, .int .i64 n] 28 (0, 0))) (hS : Kd.S k26 26 W w.heap.size (fun k => w.heap.size + 1 < k) (.slice (some ⟨g, 0, none⟩) l.length cg) l)
    (ht : w.heap[tb]? = some (.cells #[.int .i64 0, .slice none 0 0, .bool false] 26 (0, 0))) (hib : w.heap[ib]? = some (.cells #[.int .i64 i] 3 (0, 0))) :
    Calls Try.prog 23 #[.pointer (some ⟨w.heap.size + 1, 0, none⟩), .pointer (some ⟨g, i.toNat * 3, none⟩), .pointer (some ⟨tb, 0, none⟩), .pointer (some ⟨ib, 0, none⟩)] W fun e W' => ∃ r A2 m2 c2 n2, e = .returned (.bool r) ∧ W'.heap[w.heap.size + 1]? = some (.cells #[.slice A2 m2 c2, .int .i64 n2] 28 (0, 0)) ∧ TakePost w tb l n i.toNat r (.slice A2 m2 c2) n2 W' := by
  obtain ⟨f, hR⟩ := hS
  obtain ⟨rows, hrl, hraw, hM⟩ := R_raws hR
  rw [List.length_zipIdx] at hrl
  obtain ⟨m, rfl⟩ := Int.eq_ofNat_of_zero_le hi.1
  have hm : m < l.length := by have := hi.2; omega
  have hcap : l.length ≤ cg := by have := (Kd.R_reads' hR).2.1; exact this
  have hm0 : (0 : Int) ≤ (m : Int) := by omega
  have hm1 : (m : Int) < (l.length : Int) := by omega
  have hm2 : (m : Int) + 1 ≤ (l.length : Int) := by omega
  have hll : (l.length : Int) ≤ 1000000 := by omega
  have hmc : m ≤ cg := by omega
  obtain ⟨i0, hi0, hz0, hz1, hz2⟩ := info_parts info26
  obtain ⟨A2, hA2⟩ : ∃ A2, (if cg = m + 1 then (some (⟨g, 0, none⟩ : Addr)) else (some (⟨g, 0, none⟩ : Addr)).map (·.add ((m + 1) * 3))) = A2 := ⟨_, rfl⟩
  have hcut := cut_drop 22 26 .i64 Try.underlying22 hi0 hz1 (some ⟨g, 0, none⟩) l.length cg (m + 1) (by omega)
  rw [hA2, show ((m + 1 : Nat) : Int) = wrap64 ((m : Int) + 1) by unfold wrap64; omega] at hcut
  have HA2 := Aside0.mk hA2
  have HM := Aside0.mk hM
  have hiW := (hB.block _ hiw).trans hib
  clear hA2 hi0 hz0 hz1 hz2
  have hcc := (Kd.R_reads' hraw).2.2
  have hmr : m < rows.length := by omega
  have hMm := hM m (l[m], m) rows[m] (by simp [hm]) (List.getElem?_eq_getElem hmr)
  obtain ⟨v1, hc, hRb⟩ := k26_openM hMm
  obtain ⟨A1, c1, rfl⟩ := Kd.R_slice hRb
  dsimp only at hc hRb
  obtain ⟨ad, he, hcell⟩ := hcc.2.2 (by omega)
  injection he with he
  subst he
  obtain ⟨cs, hcl, hck, hcu⟩ := hcell m rows[m] (List.getElem?_eq_getElem hmr)
  obtain ⟨hck, _, _⟩ := hck
  subst hck
  rw [hc] at hcu
  have hx0 : W.cell? ⟨g, m * 3, none⟩ = some (.int .i64 l[m].f0) := by have := hcu 0 _ rfl; rwa [add_plain] at this
  have hx1 : W.cell? ⟨g, m * 3 + 1, none⟩ = some (.slice A1 l[m].f1.length c1) := by have := hcu 1 _ rfl; rwa [add_plain] at this
  have hx2 : W.cell? ⟨g, m * 3 + 2, none⟩ = some (.bool l[m].f2) := by have := hcu 2 _ rfl; rwa [add_plain] at this
  have htW := (hB.block _ htw).trans ht
  have ht0 : W.cell? ⟨tb, 0, none⟩ = some (.int .i64 0) := (blk_cell htW 0).trans rfl
  have ht1 : W.cell? ⟨tb, 1, none⟩ = some (.slice none 0 0) := (blk_cell htW 1).trans rfl
  have ht2 : W.cell? ⟨tb, 2, none⟩ = some (.bool false) := (blk_cell htW 2).trans rfl
  have htf0 := blk_frozen htW 0
  have htf1 := blk_frozen htW 1
  have htf2 := blk_frozen htW 2
  have hlm : rd_T26 l m = l[m] := by simp [rd_T26, hm]
  rw [Int.toNat_natCast]
  unfold TakePost
  rw [hlm]
  obtain ⟨X0, hX0⟩ : ∃ X, l[m].f0 = X := ⟨_, rfl⟩
  obtain ⟨X1, hX1⟩ : ∃ X, l[m].f1 = X := ⟨_, rfl⟩
  obtain ⟨X2, hX2⟩ : ∃ X, l[m].f2 = X := ⟨_, rfl⟩
  rw [hX0] at hx0 ⊢
  rw [hX1] at hx1 hRb ⊢
  rw [hX2] at hx2 ⊢
  have HRB := Aside0.mk hRb
  go_enter Try.func23, Try.ntmps23
  go_upto_region 2 with (fail)
  obtain ⟨W1, hW1⟩ : ∃ W1, (((W.setCell ⟨tb, 0, none⟩ (.int .i64 X0)).setCell ⟨tb, 1, none⟩ (.slice A1 X1.length c1)).setCell ⟨tb, 2, none⟩ (.bool X2)) = W1 := ⟨_, rfl⟩
  obtain ⟨row, hrow⟩ : ∃ row : Option Nat, row = some tb := ⟨_, rfl⟩
  have hg1 : w.grownBy W1 row := by rw [← hW1, hrow]; exact grownBy_row (grownBy_row (grownBy_row (grown_of_below hB _) 0 _) 1 _) 2 _
  have ht1 : W1.heap[tb]? = some (.cells #[.int .i64 X0, .slice A1 X1.length c1, .bool X2] 26 (0, 0)) := by
    rw [← hW1]
    exact blk_put (cs := #[.int .i64 X0, .slice A1 X1.length c1, .bool false]) (blk_put (cs := #[.int .i64 X0, .slice none 0 0, .bool false]) (blk_put (cs := #[.int .i64 0, .slice none 0 0, .bool false]) htW 0 _ rfl) 1 _ rfl) 2 _ rfl
  have hi1 : W1.heap[ib]? = some (.cells #[.int .i64 (m : Int)] 3 (0, 0)) := by
    rw [← hW1]; exact blk_far (blk_far (blk_far hiW (fun e => hti e.symm) _) (fun e => hti e.symm) _) (fun e => hti e.symm) _
  have ho1 : W1.heap[w.heap.size + 1]? = some (.cells #[.slice (some ⟨g, 0, none⟩) l.length cg, .int .i64 n] 28 (0, 0)) := by
    rw [← hW1]; exact blk_far (blk_far (blk_far hob (by show w.heap.size + 1 ≠ tb; omega) _) (by show w.heap.size + 1 ≠ tb; omega) _) (by show w.heap.size + 1 ≠ tb; omega) _
  have hraw1 : (Kd.raw 3).R 26 W1 w.heap.size (fun k => w.heap.size + 1 < k) (.slice (some ⟨g, 0, none⟩) l.length cg) rows := by
    rw [← hW1]; exact Kd.R_far (p := ⟨tb, 2, none⟩) (Kd.R_far (p := ⟨tb, 1, none⟩) (Kd.R_far (p := ⟨tb, 0, none⟩) hraw (fun k hk => by show k ≠ tb; omega) _) (fun k hk => by show k ≠ tb; omega) _) (fun k hk => by show k ≠ tb; omega) _
  have hsa : ∀ k, w.heap.size + 1 < k → W1.heap[k]? = W.heap[k]? := fun k hk => by
    rw [← hW1]
    exact (Below.heap_setCell _ ⟨tb, 2, none⟩ _ k (by show k ≠ tb; omega)).trans ((Below.heap_setCell _ ⟨tb, 1, none⟩ _ k (by show k ≠ tb; omega)).trans (Below.heap_setCell _ ⟨tb, 0, none⟩ _ k (by show k ≠ tb; omega)))
  have hsz : W1.heap.size = W.heap.size := by rw [← hW1]; simp
  rw [hW1]
  have hq0 : W1.cell? ⟨w.heap.size + 1, 0, none⟩ = some (.slice (some ⟨g, 0, none⟩) l.length cg) := (blk_cell ho1 0).trans rfl
  have hq1 : W1.cell? ⟨ib, 0, none⟩ = some (.int .i64 (m : Int)) := (blk_cell hi1 0).trans rfl
  have HG1 := Aside0.mk hg1
  have HT1 := Aside0.mk ht1
  have HO1 := Aside0.mk ho1
  have HRAW := Aside0.mk hraw1
  have HSA := Aside0.mk hsa
  have HSZ := Aside0.mk hsz
  have HR := Aside0.mk hR
  clear hW1 hg1 ht1 hi1 ho1 hraw1 hx0 hx1 hx2 htW hiW ht0 ht2 htf0 htf1 htf2 hcu hcell hcc hraw hR hM hMm hRb hob ht hib hB hsa hsz
  refine start_ (n := 19) (S := fun w' => w'.cell? ⟨w.heap.size + 1, 0, none⟩ = some (.slice (some ⟨g, 0, none⟩) l.length cg) ∧ w'.cell? ⟨ib, 0, none⟩ = some (.int .i64 (m : Int))) (ds := [18]) #[false, false, false, false, false, false, false, false, false, false, false, false, false, false, false, false, false, false, false] (by kernel_rfl) rfl rfl ⟨hq0, hq1⟩ (fun hHeld => ?_)
  obtain ⟨Wd, hWd⟩ : ∃ Wd, W1.drew = Wd := ⟨_, rfl⟩
  have hod : Wd.heap[w.heap.size + 1]? = some (.cells #[.slice (some ⟨g, 0, none⟩) l.length cg, .int .i64 n] 28 (0, 0)) := by rw [← hWd]; exact HO1.out
  have hd0 : Wd.cell? ⟨w.heap.size + 1, 0, none⟩ = some (.slice (some ⟨g, 0, none⟩) l.length cg) := by rw [← hWd]; exact hq0
  have hd1 : Wd.cell? ⟨ib, 0, none⟩ = some (.int .i64 (m : Int)) := by rw [← hWd]; exact hq1
  have hgd : w.grownBy Wd row := by rw [← hWd]; exact ⟨HG1.out.os, HG1.out.tape, HG1.out.output, HG1.out.size, HG1.out.block⟩
  have hrd : (Kd.raw 3).R 26 Wd w.heap.size (fun k => w.heap.size + 1 < k) (.slice (some ⟨g, 0, none⟩) l.length cg) rows := by rw [← hWd]; exact Kd.R_drew HRAW.out
  have hsd : ∀ k, w.heap.size + 1 < k → Wd.heap[k]? = W.heap[k]? := by rw [← hWd]; exact HSA.out
  have HWZ := Aside0.mk (show Wd.heap.size = W.heap.size by rw [← hWd]; exact HSZ.out)
  rw [hWd] at hHeld ⊢
  clear hq0 hq1
  have hcd := (Kd.R_reads' hrd).2.2
  have hl1 : (rows.take m).length = m := by rw [List.length_take]; omega
  have hl2 : (rows.drop (m + 1)).length = l.length - (m + 1) := by rw [List.length_drop]; omega
  have hc1 := Kd.C_take (m := m) hcd (by omega)
  have hc2 := Kd.C_drop (c := cg) (m := m + 1) hcd (by omega) (by omega)
  have hA2' : (if cg = m + 1 then (some (⟨g, 0, none⟩ : Addr)) else (some (⟨g, 0, none⟩ : Addr)).map (·.add ((m + 1) * (Kd.raw 3).sz))) = A2 := HA2.out
  rw [hA2'] at hc2
  have hba := World.alloc_heap_new Wd (.cells #[.slice (some ⟨g, 0, none⟩) m cg, .slice A2 (l.length - (m + 1)) (cg - (m + 1))] 22)
  have hcon := concat2 Wd.heap.size 2 (some ⟨g, 0, none⟩) A2 cg (cg - (m + 1)) (rows.take m) (rows.drop (m + 1)) (Wd.alloc (.cells #[.slice (some ⟨g, 0, none⟩) m cg, .slice A2 (l.length - (m + 1)) (cg - (m + 1))] 22)) (by rw [hl1]; exact (blk_cell hba 0).trans rfl) (by rw [hl2]; exact (blk_cell hba 1).trans rfl) (Kd.C_below hc1 (below_alloc (Below.refl _ _) _)) (Kd.C_below hc2 (below_alloc (Below.refl _ _) _)) (by rw [hl1, hl2]; omega) (by omega)
  refine pure_ (i := 0) (N := some 10) (v := ?_) (a' := ?_) #[true, false, false, false, false, false, false, false, false, false, false, false, false, false, false, false, false, false, false] rfl rfl (by kernel_rfl) (fun _ _ _ h => h) (Or.inl ⟨by rfl, ?_⟩) ?_ ?_
  rotate_left
  · intro w'
    go_simp
    with_reducible rfl
  rotate_left
  · simp only [Act.put, List.setIfInBounds_toArray, List.set_cons_zero, List.set_cons_succ, i64_w, i32_w]
    rfl
  refine pure_ (i := 1) (N := some 11) (v := ?_) (a' := ?_) #[true, true, false, false, false, false, false, false, false, false, false, false, false, false, false, false, false, false, false] rfl rfl (by kernel_rfl) (fun _ _ _ h => h) (Or.inl ⟨by rfl, ?_⟩) ?_ ?_
  rotate_left
  · intro w'
    go_simp
    with_reducible rfl
  rotate_left
  · simp only [Act.put, List.setIfInBounds_toArray, List.set_cons_zero, List.set_cons_succ, i64_w, i32_w]
    rfl
  refine pure_ (i := 2) (N := some 12) (v := ?_) (a' := ?_) #[true, true, true, false, false, false, false, false, false, false, false, false, false, false, false, false, false, false, false] rfl rfl (by kernel_rfl) (fun _ _ _ h => h) (Or.inl ⟨by rfl, ?_⟩) ?_ ?_
  rotate_left
  · intro w'
    go_simp
    with_reducible rfl
  rotate_left
  · simp only [Act.put, List.setIfInBounds_toArray, List.set_cons_zero, List.set_cons_succ, i64_w, i32_w]
    rfl
  refine pure_ (i := 3) (N := some 13) (v := ?_) (a' := ?_) #[true, true, true, true, false, false, false, false, false, false, false, false, false, false, false, false, false, false, false] rfl rfl (by kernel_rfl) (fun _ _ _ h => h) (Or.inl ⟨by rfl, ?_⟩) ?_ ?_
  rotate_left
  · intro w'
    go_simp
    with_reducible rfl
  rotate_left
  · simp only [Act.put, List.setIfInBounds_toArray, List.set_cons_zero, List.set_cons_succ, i64_w, i32_w]
    rfl
  refine pure_ (i := 7) (N := some 17) (v := ?_) (a' := ?_) #[true, true, true, true, false, false, false, true, false, false, false, false, false, false, false, false, false, false, false] rfl rfl (by kernel_rfl) (fun _ _ _ h => h) (Or.inl ⟨by rfl, ?_⟩) ?_ ?_
  rotate_left
  · intro w'
    go_simp
    with_reducible rfl
  rotate_left
  · simp only [Act.put, List.setIfInBounds_toArray, List.set_cons_zero, List.set_cons_succ, i64_w, i32_w]
    rfl
  refine pure_ (i := 8) (N := some 18) (v := ?_) (a' := ?_) #[true, true, true, true, false, false, false, true, true, false, false, false, false, false, false, false, false, false, false] rfl rfl (by kernel_rfl) (fun _ _ _ h => h) (Or.inl ⟨by rfl, ?_⟩) ?_ ?_
  rotate_left
  · intro w'
    go_simp
    with_reducible rfl
  rotate_left
  · simp only [Act.put, List.setIfInBounds_toArray, List.set_cons_zero, List.set_cons_succ, i64_w, i32_w]
    rfl
  refine pure_ (i := 9) (N := some 19) (v := ?_) (a' := ?_) #[true, true, true, true, false, false, false, true, true, true, false, false, false, false, false, false, false, false, false] rfl rfl (by kernel_rfl) (fun _ _ _ h => h) (Or.inl ⟨by rfl, ?_⟩) ?_ ?_
  rotate_left
  · intro w'
    go_simp
    with_reducible rfl
  rotate_left
  · simp only [Act.put, List.setIfInBounds_toArray, List.set_cons_zero, List.set_cons_succ, i64_w, i32_w]
    rfl
  refine take_ (i := 4) (N := some 14) (v := ?_) (a' := ?_) #[true, true, true, true, true, false, false, true, true, true, false, false, false, false, false, false, false, false, false] rfl rfl (by kernel_rfl) (fun _ _ _ h => h) (Or.inl ⟨by rfl, ?_⟩) hHeld ?_ ?_
  rotate_left
  · rintro w' ⟨s0, s1⟩
    go_simp
    with_reducible rfl
  rotate_left
  · simp only [Act.put, List.setIfInBounds_toArray, List.set_cons_zero, List.set_cons_succ, i64_w, i32_w]
    rfl
  refine take_ (i := 5) (N := some 15) (v := ?_) (a' := ?_) #[true, true, true, true, true, true, false, true, true, true, false, false, false, false, false, false, false, false, false] rfl rfl (by kernel_rfl) (fun _ _ _ h => h) (Or.inl ⟨by rfl, ?_⟩) hHeld ?_ ?_
  rotate_left
  · rintro w' ⟨s0, s1⟩
    go_simp
    with_reducible rfl
  rotate_left
  · simp only [Act.put, List.setIfInBounds_toArray, List.set_cons_zero, List.set_cons_succ, i64_w, i32_w]
    rfl
  refine pure_ (i := 6) (N := some 16) (v := ?_) (a' := ?_) #[true, true, true, true, true, true, true, true, true, true, false, false, false, false, false, false, false, false, false] rfl rfl (by kernel_rfl) (fun _ _ _ h => h) (Or.inl ⟨by rfl, ?_⟩) ?_ ?_
  rotate_left
  · intro w'
    go_simp
    with_reducible rfl
  rotate_left
  · simp only [Act.put, List.setIfInBounds_toArray, List.set_cons_zero, List.set_cons_succ, i64_w, i32_w]
    rfl
  refine take_ (i := 10) (N := some 20) (v := ?_) (a' := ?_) #[true, true, true, true, true, true, true, true, true, true, true, false, false, false, false, false, false, false, false] rfl rfl (by kernel_rfl) (fun _ _ _ h => h) (Or.inl ⟨by rfl, ?_⟩) hHeld ?_ ?_
  rotate_left
  · rintro w' ⟨s0, s1⟩
    go_simp
    with_reducible rfl
  rotate_left
  · simp only [Act.put, List.setIfInBounds_toArray, List.set_cons_zero, List.set_cons_succ, i64_w, i32_w]
    rfl
  refine take_ (i := 11) (N := some 21) (v := ?_) (a' := ?_) #[true, true, true, true, true, true, true, true, true, true, true, true, false, false, false, false, false, false, false] rfl rfl (by kernel_rfl) (fun _ _ _ h => h) (Or.inl ⟨by rfl, ?_⟩) hHeld ?_ ?_
  rotate_left
  · rintro w' ⟨s0, s1⟩
    go_simp
    with_reducible rfl
  rotate_left
  · simp only [Act.put, List.setIfInBounds_toArray, List.set_cons_zero, List.set_cons_succ, i64_w, i32_w]
    rfl
  refine pure_ (i := 12) (N := some 22) (v := ?_) (a' := ?_) #[true, true, true, true, true, true, true, true, true, true, true, true, true, false, false, false, false, false, false] rfl rfl (by kernel_rfl) (fun _ _ _ h => h) (Or.inl ⟨by rfl, ?_⟩) ?_ ?_
  rotate_left
  · intro w'
    go_simp
    with_reducible rfl
  rotate_left
  · simp only [Act.put, List.setIfInBounds_toArray, List.set_cons_zero, List.set_cons_succ, i64_w, i32_w]
    rfl
  refine pure_ (i := 13) (N := some 23) (v := ?_) (a' := ?_) #[true, true, true, true, true, true, true, true, true, true, true, true, true, true, false, false, false, false, false] rfl rfl (by kernel_rfl) (fun _ _ _ h => h) (Or.inl ⟨by rfl, ?_⟩) ?_ ?_
  rotate_left
  · intro w'
    go_simp
    with_reducible rfl
  rotate_left
  · simp only [Act.put, List.setIfInBounds_toArray, List.set_cons_zero, List.set_cons_succ, i64_w, i32_w]
    rfl
  refine one_ (i := 14) (N := some 24) #[true, true, true, true, true, true, true, true, true, true, true, true, true, true, true, false, false, false, false] rfl rfl (by kernel_rfl) (by decide) (fun K hK => ?_)
  refine value_ (w1 := ?_) (v := ?_) (by rfl) rfl ?_ ?_
  rotate_left 2
  · go_simp
    constructor
    · rfl
    · rfl
  refine hK.out _ _ ⟨cell_keep (below_alloc (Below.refl _ _) _) hd0, cell_keep (below_alloc (Below.refl _ _) _) hd1⟩ (fun hHeld => ?_)
  clear hK K
  refine norm_ (a' := ?_) ?_ ?_
  rotate_left
  · show Act.put _ (some 24) _ = _
    simp only [Act.put, List.setIfInBounds_toArray, List.set_cons_zero, List.set_cons_succ, i64_w, i32_w]
    rfl
  refine one_ (i := 15) (N := some 25) #[true, true, true, true, true, true, true, true, true, true, true, true, true, true, true, true, false, false, false] rfl rfl (by kernel_rfl) (by decide) (fun K hK => ?_)
  refine goes_ Try.func24 (by kernel_rfl) rfl #[.slice (some ⟨Wd.heap.size, 0, none⟩) 2 2] (by rfl) rfl rfl (by simp only [List.map_toArray, List.map_cons, List.map_nil]; rfl) ?_
  with_reducible refine (hcon).mono ?_
  rintro e w4 ⟨v4, rfl, hr4, hb4⟩
  refine ⟨_, rfl, ?_⟩
  obtain ⟨A4, c4, e4⟩ := Kd.R_slice hr4
  subst e4
  have hk0 := cell_keep ((below_alloc (Below.refl _ Wd) _).trans (hb4.mono (by rw [World.size_alloc]; omega))) hd0
  have hk1 := cell_keep ((below_alloc (Below.refl _ Wd) _).trans (hb4.mono (by rw [World.size_alloc]; omega))) hd1
  have hff : w4.frozen? ⟨w.heap.size + 1, 0, none⟩ = false := blk_frozen ((hb4.block _ (by rw [World.size_alloc]; have := blk_lt hod; omega)).trans (blk_alloc hod _)) 0
  refine hK.out _ _ ⟨hk0, hk1⟩ (fun hHeld => ?_)
  clear hK K
  refine norm_ (a' := ?_) ?_ ?_
  rotate_left
  · show Act.put _ (some 25) _ = _
    simp only [Act.put, List.setIfInBounds_toArray, List.set_cons_zero, List.set_cons_succ, i64_w, i32_w]
    rfl
  refine pure_ (i := 16) (N := some 26) (v := ?_) (a' := ?_) #[true, true, true, true, true, true, true, true, true, true, true, true, true, true, true, true, true, false, false] rfl rfl (by kernel_rfl) (fun _ _ _ h => h) (Or.inl ⟨by rfl, ?_⟩) ?_ ?_
  rotate_left
  · intro w'
    go_simp
    with_reducible rfl
  rotate_left
  · simp only [Act.put, List.setIfInBounds_toArray, List.set_cons_zero, List.set_cons_succ, i64_w, i32_w]
    rfl
  refine pure_ (i := 17) (N := some 27) (v := ?_) (a' := ?_) #[true, true, true, true, true, true, true, true, true, true, true, true, true, true, true, true, true, true, false] rfl rfl (by kernel_rfl) (fun _ _ _ h => h) (Or.inl ⟨by rfl, ?_⟩) ?_ ?_
  rotate_left
  · intro w'
    go_simp
    with_reducible rfl
  rotate_left
  · simp only [Act.put, List.setIfInBounds_toArray, List.set_cons_zero, List.set_cons_succ, i64_w, i32_w]
    rfl
  refine last_ (i := 18) (N := none) #[true, true, true, true, true, true, true, true, true, true, true, true, true, true, true, true, true, true, true] rfl rfl (by kernel_rfl) (by decide) (fun K hK => ?_)
  refine skip_ (w1 := ?_) (by rfl) rfl ?_ ?_
  rotate_left
  · go_simp
    rfl
  refine hK.out _ _ ?_
  clear hK K
  refine done_ (by kernel_rfl) ?_
  go_wp2
  go_ret
  have hWz := HWZ.out
  have hb5 : Below Wd.heap.size Wd w4 := (below_alloc (Below.refl _ Wd) _).trans (hb4.mono (by rw [World.size_alloc]; omega))
  have hob4 : w4.heap[w.heap.size + 1]? = some (.cells #[.slice (some ⟨g, 0, none⟩) l.length cg, .int .i64 n] 28 (0, 0)) := (hb5.block _ (blk_lt hod)).trans hod
  have htb5 : Wd.heap[tb]? = some (.cells #[.int .i64 X0, .slice A1 X1.length c1, .bool X2] 26 (0, 0)) := by rw [← hWd]; exact HT1.out
  have htb4 := (hb5.block _ (blk_lt htb5)).trans htb5
  have hsame : ∀ k, w.heap.size + 1 < k → k < W.heap.size → (w4.setCell ⟨w.heap.size + 1, 0, none⟩ (.slice A4 (rows.take m ++ rows.drop (m + 1)).length c4)).heap[k]? = W.heap[k]? := fun k hk hlt =>
    (Below.heap_setCell w4 ⟨w.heap.size + 1, 0, none⟩ _ k (by show k ≠ w.heap.size + 1; omega)).trans ((hb5.block k (by omega)).trans (hsd k hk))
  have hr5 := Kd.R_far (p := ⟨w.heap.size + 1, 0, none⟩) (Kd.R_mono (Kd.R_bound hr4) (fun k hk => hk.2.1)) (fun k hk => by show k ≠ w.heap.size + 1; rw [World.size_alloc] at hk; have := blk_lt hod; omega) (.slice A4 (rows.take m ++ rows.drop (m + 1)).length c4)
  have hS5 := S_erased (f := f) (W := W) (base := w.heap.size) (N := w.heap.size + 1) hrl HM.out hsame hr5 (by rw [World.size_alloc]; have := blk_lt hod; omega) (by rw [World.size_alloc]; omega)
  have hlen : (rows.take m ++ rows.drop (m + 1)).length = m + (l.length - (m + 1)) := by rw [List.length_append, hl1, hl2]
  rw [hlen] at hS5 hsame
  have hRbb := Kd.R_bound HRB.out
  refine ⟨true, A4, _, c4, n, rfl, blk_put (cs := #[.slice (some ⟨g, 0, none⟩) l.length cg, .int .i64 n]) hob4 0 _ rfl, rfl, rfl, ?_, A1, c1, blk_far htb4 (by show tb ≠ w.heap.size + 1; omega) _, ?_, ?_⟩
  · have := grownBy_new (grownBy_below hgd hb5) (b := w.heap.size + 1) (by omega) 0 (.slice A4 (m + (l.length - (m + 1))) c4)
    rw [hrow] at this
    exact this
  · exact Kd.R_mono (Kd.R_step hRbb (fun k hk hlt => hsame k hk.1.1.1 hlt)) (fun k hk => hk.1.1.1)
  · refine Kd.S_mono hS5 (fun k hk => ?_)
    have hsz5 : W.heap.size ≤ (Wd.alloc (.cells #[.slice (some ⟨g, 0, none⟩) m cg, .slice A2 (l.length - (m + 1)) (cg - (m + 1))] 22)).heap.size := by rw [World.size_alloc]; omega
    have hgs : w.heap.size + 1 < W.heap.size := by rw [← hWz]; exact blk_lt hod
    rcases hk with ⟨h1, h2, h3⟩ | h1
    · exact ⟨h1, fun e => h3 (hRbb.1 k e.symm).1.2⟩
    · refine ⟨by omega, fun e => ?_⟩
      have := (hRbb.1 k e.symm).2.2.1
      omega

/-- What Drop's closure leaves. -/
def DropPost (w : World) (l : List S26) (n : Int) (m : Nat) (r : Bool) (v2 : Value) (n2 : Int) (W : World) : Prop :=
  r = true ∧ n2 = wrap64 (n + 1) ∧ Below w.heap.size w W ∧ Kd.S k26 26 W w.heap.size (fun k => w.heap.size + 1 < k) v2 (l.eraseIdx m)

set_option maxRecDepth 100000 in
set_option maxHeartbeats 8000000 in
theorem drop1 (w W : World) (ib g cg : Nat) (l : List S26) (n i : Int) (hi : 0 ≤ i ∧ i < l.length) (hl : l.length ≤ 1000000) (hiw : ib < w.heap.size) (hB : Below w.heap.size w W) (hg : w.heap.size + 1 < g)
    (hob : W.heap[w.heap.size + 1]? = some (.cells #[.slice (some ⟨g, 0, none⟩) l.length cg, .int .i64 n] 28 (0, 0))) (hS : Kd.S k26 26 W w.heap.size (fun k => w.heap.size + 1 < k) (.slice (some ⟨g, 0, none⟩) l.length cg) l)
    (hib : w.heap[ib]? = some (.cells #[.int .i64 i] 3 (0, 0))) :
    Calls Try.prog 26 #[.pointer (some ⟨w.heap.size + 1, 0, none⟩), .pointer (some ⟨g, i.toNat * 3, none⟩), .pointer (some ⟨ib, 0, none⟩)] W fun e W' => ∃ r A2 m2 c2 n2, e = .returned (.bool r) ∧ W'.heap[w.heap.size + 1]? = some (.cells #[.slice A2 m2 c2, .int .i64 n2] 28 (0, 0)) ∧ DropPost w l n i.toNat r (.slice A2 m2 c2) n2 W' := by
  obtain ⟨f, hR⟩ := hS
  obtain ⟨rows, hrl, hraw, hM⟩ := R_raws hR
  rw [List.length_zipIdx] at hrl
  obtain ⟨m, rfl⟩ := Int.eq_ofNat_of_zero_le hi.1
  have hm : m < l.length := by have := hi.2; omega
  have hcap : l.length ≤ cg := by have := (Kd.R_reads' hR).2.1; exact this
  have hm0 : (0 : Int) ≤ (m : Int) := by omega
  have hm1 : (m : Int) < (l.length : Int) := by omega
  have hm2 : (m : Int) + 1 ≤ (l.length : Int) := by omega
  have hll : (l.length : Int) ≤ 1000000 := by omega
  have hmc : m ≤ cg := by omega
  obtain ⟨i0, hi0, hz0, hz1, hz2⟩ := info_parts info26
  obtain ⟨A2, hA2⟩ : ∃ A2, (if cg = m + 1 then (some (⟨g, 0, none⟩ : Addr)) else (some (⟨g, 0, none⟩ : Addr)).map (·.add ((m + 1) * 3))) = A2 := ⟨_, rfl⟩
  have hcut := cut_drop 22 26 .i64 Try.underlying22 hi0 hz1 (some ⟨g, 0, none⟩) l.length cg (m + 1) (by omega)
  rw [hA2, show ((m + 1 : Nat) : Int) = wrap64 ((m : Int) + 1) by unfold wrap64; omega] at hcut
  have HA2 := Aside0.mk hA2
  have HM := Aside0.mk hM
  have hiW := (hB.block _ hiw).trans hib
  clear hA2 hi0 hz0 hz1 hz2
  rw [Int.toNat_natCast]
  unfold DropPost
  go_enter Try.func26, Try.ntmps26
  go_upto_region 1 with (fail)
  obtain ⟨W1, hW1⟩ : ∃ W1, W1 = W := ⟨_, rfl⟩
  obtain ⟨row, hrow⟩ : ∃ row : Option Nat, row = none := ⟨_, rfl⟩
  have HG1 := Aside0.mk (show w.grownBy W1 row by rw [hW1]; exact grown_of_below hB _)
  have HO1 := Aside0.mk (show W1.heap[w.heap.size + 1]? = some (.cells #[.slice (some ⟨g, 0, none⟩) l.length cg, .int .i64 n] 28 (0, 0)) by rw [hW1]; exact hob)
  have HRAW := Aside0.mk (show (Kd.raw 3).R 26 W1 w.heap.size (fun k => w.heap.size + 1 < k) (.slice (some ⟨g, 0, none⟩) l.length cg) rows by rw [hW1]; exact hraw)
  have HSA := Aside0.mk (show ∀ k, w.heap.size + 1 < k → W1.heap[k]? = W.heap[k]? from fun k hk => by rw [hW1])
  have HSZ := Aside0.mk (show W1.heap.size = W.heap.size by rw [hW1])
  have hi1 : W1.heap[ib]? = some (.cells #[.int .i64 (m : Int)] 3 (0, 0)) := by rw [hW1]; exact hiW
  have hq0 : W1.cell? ⟨w.heap.size + 1, 0, none⟩ = some (.slice (some ⟨g, 0, none⟩) l.length cg) := (blk_cell HO1.out 0).trans rfl
  have hq1 : W1.cell? ⟨ib, 0, none⟩ = some (.int .i64 (m : Int)) := (blk_cell hi1 0).trans rfl
  rw [← hW1]
  clear hiW hraw hR hM hob hib hB hi1 hW1
  refine start_ (n := 19) (S := fun w' => w'.cell? ⟨w.heap.size + 1, 0, none⟩ = some (.slice (some ⟨g, 0, none⟩) l.length cg) ∧ w'.cell? ⟨ib, 0, none⟩ = some (.int .i64 (m : Int))) (ds := [18]) #[false, false, false, false, false, false, false, false, false, false, false, false, false, false, false, false, false, false, false] (by kernel_rfl) rfl rfl ⟨hq0, hq1⟩ (fun hHeld => ?_)
  obtain ⟨Wd, hWd⟩ : ∃ Wd, W1.drew = Wd := ⟨_, rfl⟩
  have hod : Wd.heap[w.heap.size + 1]? = some (.cells #[.slice (some ⟨g, 0, none⟩) l.length cg, .int .i64 n] 28 (0, 0)) := by rw [← hWd]; exact HO1.out
  have hd0 : Wd.cell? ⟨w.heap.size + 1, 0, none⟩ = some (.slice (some ⟨g, 0, none⟩) l.length cg) := by rw [← hWd]; exact hq0
  have hd1 : Wd.cell? ⟨ib, 0, none⟩ = some (.int .i64 (m : Int)) := by rw [← hWd]; exact hq1
  have hgd : w.grownBy Wd row := by rw [← hWd]; exact ⟨HG1.out.os, HG1.out.tape, HG1.out.output, HG1.out.size, HG1.out.block⟩
  have hrd : (Kd.raw 3).R 26 Wd w.heap.size (fun k => w.heap.size + 1 < k) (.slice (some ⟨g, 0, none⟩) l.length cg) rows := by rw [← hWd]; exact Kd.R_drew HRAW.out
  have hsd : ∀ k, w.heap.size + 1 < k → Wd.heap[k]? = W.heap[k]? := by rw [← hWd]; exact HSA.out
  have HWZ := Aside0.mk (show Wd.heap.size = W.heap.size by rw [← hWd]; exact HSZ.out)
  rw [hWd] at hHeld ⊢
  clear hq0 hq1
  have hcd := (Kd.R_reads' hrd).2.2
  have hl1 : (rows.take m).length = m := by rw [List.length_take]; omega
  have hl2 : (rows.drop (m + 1)).length = l.length - (m + 1) := by rw [List.length_drop]; omega
  have hc1 := Kd.C_take (m := m) hcd (by omega)
  have hc2 := Kd.C_drop (c := cg) (m := m + 1) hcd (by omega) (by omega)
  have hA2' : (if cg = m + 1 then (some (⟨g, 0, none⟩ : Addr)) else (some (⟨g, 0, none⟩ : Addr)).map (·.add ((m + 1) * (Kd.raw 3).sz))) = A2 := HA2.out
  rw [hA2'] at hc2
  have hba := World.alloc_heap_new Wd (.cells #[.slice (some ⟨g, 0, none⟩) m cg, .slice A2 (l.length - (m + 1)) (cg - (m + 1))] 22)
  have hcon := concat2 Wd.heap.size 2 (some ⟨g, 0, none⟩) A2 cg (cg - (m + 1)) (rows.take m) (rows.drop (m + 1)) (Wd.alloc (.cells #[.slice (some ⟨g, 0, none⟩) m cg, .slice A2 (l.length - (m + 1)) (cg - (m + 1))] 22)) (by rw [hl1]; exact (blk_cell hba 0).trans rfl) (by rw [hl2]; exact (blk_cell hba 1).trans rfl) (Kd.C_below hc1 (below_alloc (Below.refl _ _) _)) (Kd.C_below hc2 (below_alloc (Below.refl _ _) _)) (by rw [hl1, hl2]; omega) (by omega)
  refine pure_ (i := 0) (N := some 6) (v := ?_) (a' := ?_) #[true, false, false, false, false, false, false, false, false, false, false, false, false, false, false, false, false, false, false] rfl rfl (by kernel_rfl) (fun _ _ _ h => h) (Or.inl ⟨by rfl, ?_⟩) ?_ ?_
  rotate_left
  · intro w'
    go_simp
    with_reducible rfl
  rotate_left
  · simp only [Act.put, List.setIfInBounds_toArray, List.set_cons_zero, List.set_cons_succ, i64_w, i32_w]
    rfl
  refine pure_ (i := 1) (N := some 7) (v := ?_) (a' := ?_) #[true, true, false, false, false, false, false, false, false, false, false, false, false, false, false, false, false, false, false] rfl rfl (by kernel_rfl) (fun _ _ _ h => h) (Or.inl ⟨by rfl, ?_⟩) ?_ ?_
  rotate_left
  · intro w'
    go_simp
    with_reducible rfl
  rotate_left
  · simp only [Act.put, List.setIfInBounds_toArray, List.set_cons_zero, List.set_cons_succ, i64_w, i32_w]
    rfl
  refine pure_ (i := 2) (N := some 8) (v := ?_) (a' := ?_) #[true, true, true, false, false, false, false, false, false, false, false, false, false, false, false, false, false, false, false] rfl rfl (by kernel_rfl) (fun _ _ _ h => h) (Or.inl ⟨by rfl, ?_⟩) ?_ ?_
  rotate_left
  · intro w'
    go_simp
    with_reducible rfl
  rotate_left
  · simp only [Act.put, List.setIfInBounds_toArray, List.set_cons_zero, List.set_cons_succ, i64_w, i32_w]
    rfl
  refine pure_ (i := 3) (N := some 9) (v := ?_) (a' := ?_) #[true, true, true, true, false, false, false, false, false, false, false, false, false, false, false, false, false, false, false] rfl rfl (by kernel_rfl) (fun _ _ _ h => h) (Or.inl ⟨by rfl, ?_⟩) ?_ ?_
  rotate_left
  · intro w'
    go_simp
    with_reducible rfl
  rotate_left
  · simp only [Act.put, List.setIfInBounds_toArray, List.set_cons_zero, List.set_cons_succ, i64_w, i32_w]
    rfl
  refine pure_ (i := 7) (N := some 13) (v := ?_) (a' := ?_) #[true, true, true, true, false, false, false, true, false, false, false, false, false, false, false, false, false, false, false] rfl rfl (by kernel_rfl) (fun _ _ _ h => h) (Or.inl ⟨by rfl, ?_⟩) ?_ ?_
  rotate_left
  · intro w'
    go_simp
    with_reducible rfl
  rotate_left
  · simp only [Act.put, List.setIfInBounds_toArray, List.set_cons_zero, List.set_cons_succ, i64_w, i32_w]
    rfl
  refine pure_ (i := 8) (N := some 14) (v := ?_) (a' := ?_) #[true, true, true, true, false, false, false, true, true, false, false, false, false, false, false, false, false, false, false] rfl rfl (by kernel_rfl) (fun _ _ _ h => h) (Or.inl ⟨by rfl, ?_⟩) ?_ ?_
  rotate_left
  · intro w'
    go_simp
    with_reducible rfl
  rotate_left
  · simp only [Act.put, List.setIfInBounds_toArray, List.set_cons_zero, List.set_cons_succ, i64_w, i32_w]
    rfl
  refine pure_ (i := 9) (N := some 15) (v := ?_) (a' := ?_) #[true, true, true, true, false, false, false, true, true, true, false, false, false, false, false, false, false, false, false] rfl rfl (by kernel_rfl) (fun _ _ _ h => h) (Or.inl ⟨by rfl, ?_⟩) ?_ ?_
  rotate_left
  · intro w'
    go_simp
    with_reducible rfl
  rotate_left
  · simp only [Act.put, List.setIfInBounds_toArray, List.set_cons_zero, List.set_cons_succ, i64_w, i32_w]
    rfl
  refine take_ (i := 4) (N := some 10) (v := ?_) (a' := ?_) #[true, true, true, true, true, false, false, true, true, true, false, false, false, false, false, false, false, false, false] rfl rfl (by kernel_rfl) (fun _ _ _ h => h) (Or.inl ⟨by rfl, ?_⟩) hHeld ?_ ?_
  rotate_left
  · rintro w' ⟨s0, s1⟩
    go_simp
    with_reducible rfl
  rotate_left
  · simp only [Act.put, List.setIfInBounds_toArray, List.set_cons_zero, List.set_cons_succ, i64_w, i32_w]
    rfl
  refine take_ (i := 5) (N := some 11) (v := ?_) (a' := ?_) #[true, true, true, true, true, true, false, true, true, true, false, false, false, false, false, false, false, false, false] rfl rfl (by kernel_rfl) (fun _ _ _ h => h) (Or.inl ⟨by rfl, ?_⟩) hHeld ?_ ?_
  rotate_left
  · rintro w' ⟨s0, s1⟩
    go_simp
    with_reducible rfl
  rotate_left
  · simp only [Act.put, List.setIfInBounds_toArray, List.set_cons_zero, List.set_cons_succ, i64_w, i32_w]
    rfl
  refine pure_ (i := 6) (N := some 12) (v := ?_) (a' := ?_) #[true, true, true, true, true, true, true, true, true, true, false, false, false, false, false, false, false, false, false] rfl rfl (by kernel_rfl) (fun _ _ _ h => h) (Or.inl ⟨by rfl, ?_⟩) ?_ ?_
  rotate_left
  · intro w'
    go_simp
    with_reducible rfl
  rotate_left
  · simp only [Act.put, List.setIfInBounds_toArray, List.set_cons_zero, List.set_cons_succ, i64_w, i32_w]
    rfl
  refine take_ (i := 10) (N := some 16) (v := ?_) (a' := ?_) #[true, true, true, true, true, true, true, true, true, true, true, false, false, false, false, false, false, false, false] rfl rfl (by kernel_rfl) (fun _ _ _ h => h) (Or.inl ⟨by rfl, ?_⟩) hHeld ?_ ?_
  rotate_left
  · rintro w' ⟨s0, s1⟩
    go_simp
    with_reducible rfl
  rotate_left
  · simp only [Act.put, List.setIfInBounds_toArray, List.set_cons_zero, List.set_cons_succ, i64_w, i32_w]
    rfl
  refine take_ (i := 11) (N := some 17) (v := ?_) (a' := ?_) #[true, true, true, true, true, true, true, true, true, true, true, true, false, false, false, false, false, false, false] rfl rfl (by kernel_rfl) (fun _ _ _ h => h) (Or.inl ⟨by rfl, ?_⟩) hHeld ?_ ?_
  rotate_left
  · rintro w' ⟨s0, s1⟩
    go_simp
    with_reducible rfl
  rotate_left
  · simp only [Act.put, List.setIfInBounds_toArray, List.set_cons_zero, List.set_cons_succ, i64_w, i32_w]
    rfl
  refine pure_ (i := 12) (N := some 18) (v := ?_) (a' := ?_) #[true, true, true, true, true, true, true, true, true, true, true, true, true, false, false, false, false, false, false] rfl rfl (by kernel_rfl) (fun _ _ _ h => h) (Or.inl ⟨by rfl, ?_⟩) ?_ ?_
  rotate_left
  · intro w'
    go_simp
    with_reducible rfl
  rotate_left
  · simp only [Act.put, List.setIfInBounds_toArray, List.set_cons_zero, List.set_cons_succ, i64_w, i32_w]
    rfl
  refine pure_ (i := 13) (N := some 19) (v := ?_) (a' := ?_) #[true, true, true, true, true, true, true, true, true, true, true, true, true, true, false, false, false, false, false] rfl rfl (by kernel_rfl) (fun _ _ _ h => h) (Or.inl ⟨by rfl, ?_⟩) ?_ ?_
  rotate_left
  · intro w'
    go_simp
    with_reducible rfl
  rotate_left
  · simp only [Act.put, List.setIfInBounds_toArray, List.set_cons_zero, List.set_cons_succ, i64_w, i32_w]
    rfl
  refine one_ (i := 14) (N := some 20) #[true, true, true, true, true, true, true, true, true, true, true, true, true, true, true, false, false, false, false] rfl rfl (by kernel_rfl) (by decide) (fun K hK => ?_)
  refine value_ (w1 := ?_) (v := ?_) (by rfl) rfl ?_ ?_
  rotate_left 2
  · go_simp
    constructor
    · rfl
    · rfl
  refine hK.out _ _ ⟨cell_keep (below_alloc (Below.refl _ _) _) hd0, cell_keep (below_alloc (Below.refl _ _) _) hd1⟩ (fun hHeld => ?_)
  clear hK K
  refine norm_ (a' := ?_) ?_ ?_
  rotate_left
  · show Act.put _ (some 20) _ = _
    simp only [Act.put, List.setIfInBounds_toArray, List.set_cons_zero, List.set_cons_succ, i64_w, i32_w]
    rfl
  refine one_ (i := 15) (N := some 21) #[true, true, true, true, true, true, true, true, true, true, true, true, true, true, true, true, false, false, false] rfl rfl (by kernel_rfl) (by decide) (fun K hK => ?_)
  refine goes_ Try.func24 (by kernel_rfl) rfl #[.slice (some ⟨Wd.heap.size, 0, none⟩) 2 2] (by rfl) rfl rfl (by simp only [List.map_toArray, List.map_cons, List.map_nil]; rfl) ?_
  with_reducible refine (hcon).mono ?_
  rintro e w4 ⟨v4, rfl, hr4, hb4⟩
  refine ⟨_, rfl, ?_⟩
  obtain ⟨A4, c4, e4⟩ := Kd.R_slice hr4
  subst e4
  have hk0 := cell_keep ((below_alloc (Below.refl _ Wd) _).trans (hb4.mono (by rw [World.size_alloc]; omega))) hd0
  have hk1 := cell_keep ((below_alloc (Below.refl _ Wd) _).trans (hb4.mono (by rw [World.size_alloc]; omega))) hd1
  have hff : w4.frozen? ⟨w.heap.size + 1, 0, none⟩ = false := blk_frozen ((hb4.block _ (by rw [World.size_alloc]; have := blk_lt hod; omega)).trans (blk_alloc hod _)) 0
  refine hK.out _ _ ⟨hk0, hk1⟩ (fun hHeld => ?_)
  clear hK K
  refine norm_ (a' := ?_) ?_ ?_
  rotate_left
  · show Act.put _ (some 21) _ = _
    simp only [Act.put, List.setIfInBounds_toArray, List.set_cons_zero, List.set_cons_succ, i64_w, i32_w]
    rfl
  refine pure_ (i := 16) (N := some 22) (v := ?_) (a' := ?_) #[true, true, true, true, true, true, true, true, true, true, true, true, true, true, true, true, true, false, false] rfl rfl (by kernel_rfl) (fun _ _ _ h => h) (Or.inl ⟨by rfl, ?_⟩) ?_ ?_
  rotate_left
  · intro w'
    go_simp
    with_reducible rfl
  rotate_left
  · simp only [Act.put, List.setIfInBounds_toArray, List.set_cons_zero, List.set_cons_succ, i64_w, i32_w]
    rfl
  refine pure_ (i := 17) (N := some 23) (v := ?_) (a' := ?_) #[true, true, true, true, true, true, true, true, true, true, true, true, true, true, true, true, true, true, false] rfl rfl (by kernel_rfl) (fun _ _ _ h => h) (Or.inl ⟨by rfl, ?_⟩) ?_ ?_
  rotate_left
  · intro w'
    go_simp
    with_reducible rfl
  rotate_left
  · simp only [Act.put, List.setIfInBounds_toArray, List.set_cons_zero, List.set_cons_succ, i64_w, i32_w]
    rfl
  refine last_ (i := 18) (N := none) #[true, true, true, true, true, true, true, true, true, true, true, true, true, true, true, true, true, true, true] rfl rfl (by kernel_rfl) (by decide) (fun K hK => ?_)
  refine skip_ (w1 := ?_) (by rfl) rfl ?_ ?_
  rotate_left
  · go_simp
    rfl
  refine hK.out _ _ ?_
  clear hK K
  refine done_ (by kernel_rfl) ?_
  have hWz := HWZ.out
  have hb5 : Below Wd.heap.size Wd w4 := (below_alloc (Below.refl _ Wd) _).trans (hb4.mono (by rw [World.size_alloc]; omega))
  have hob4 : w4.heap[w.heap.size + 1]? = some (.cells #[.slice (some ⟨g, 0, none⟩) l.length cg, .int .i64 n] 28 (0, 0)) := (hb5.block _ (blk_lt hod)).trans hod
  have hlen : (rows.take m ++ rows.drop (m + 1)).length = m + (l.length - (m + 1)) := by rw [List.length_append, hl1, hl2]
  have hob5 : (w4.setCell ⟨w.heap.size + 1, 0, none⟩ (.slice A4 (m + (l.length - (m + 1))) c4)).heap[w.heap.size + 1]? = some (.cells #[.slice A4 (m + (l.length - (m + 1))) c4, .int .i64 n] 28 (0, 0)) := blk_put (cs := #[.slice (some ⟨g, 0, none⟩) l.length cg, .int .i64 n]) hob4 0 _ rfl
  have hz1 : (w4.setCell ⟨w.heap.size + 1, 0, none⟩ (.slice A4 (m + (l.length - (m + 1))) c4)).cell? ⟨w.heap.size + 1, 1, none⟩ = some (.int .i64 n) := (blk_cell hob5 1).trans rfl
  have hzf := blk_frozen hob5 1
  obtain ⟨W5, hW5⟩ : ∃ W5, w4.setCell ⟨w.heap.size + 1, 0, none⟩ (.slice A4 (m + (l.length - (m + 1))) c4) = W5 := ⟨_, rfl⟩
  have hsame : ∀ k, w.heap.size + 1 < k → k < W.heap.size → W5.heap[k]? = W.heap[k]? := fun k hk hlt => by
    rw [← hW5]
    exact (Below.heap_setCell w4 ⟨w.heap.size + 1, 0, none⟩ _ k (by show k ≠ w.heap.size + 1; omega)).trans ((hb5.block k (by omega)).trans (hsd k hk))
  have hr5 := Kd.R_far (p := ⟨w.heap.size + 1, 0, none⟩) (Kd.R_mono (Kd.R_bound hr4) (fun k hk => hk.2.1)) (fun k hk => by show k ≠ w.heap.size + 1; rw [World.size_alloc] at hk; have := blk_lt hod; omega) (.slice A4 (m + (l.length - (m + 1))) c4)
  have hgb : w.grownBy W5 row := by rw [← hW5]; exact grownBy_new (grownBy_below hgd hb5) (b := w.heap.size + 1) (by omega) 0 _
  rw [hlen] at hr5
  try rw [hlen]
  rw [hW5] at hob5 hz1 hzf hr5 ⊢
  have hS5 := S_erased (f := f) (W := W) (base := w.heap.size) (N := w.heap.size + 1) hrl HM.out hsame hr5 (by rw [World.size_alloc]; have := blk_lt hod; omega) (by rw [World.size_alloc]; omega)
  have HS5 := Aside0.mk hS5
  have HOB := Aside0.mk hob5
  have HGB := Aside0.mk hgb
  have hgs : w.heap.size + 1 < W.heap.size := by rw [← hWz]; exact blk_lt hod
  have hsz5 : W.heap.size ≤ (Wd.alloc (.cells #[.slice (some ⟨g, 0, none⟩) m cg, .slice A2 (l.length - (m + 1)) (cg - (m + 1))] 22)).heap.size := by rw [World.size_alloc]; omega
  clear hob5 hsame hr5 hgb hS5 hob4 hb5 hW5 hcon hba hc1 hc2 hcd hr4 hb4 hsd hrd hgd hod hd0 hd1
  go_wp2
  go_ret
  refine ⟨true, A4, _, c4, _, rfl, blk_put (cs := #[.slice A4 (m + (l.length - (m + 1))) c4, .int .i64 n]) HOB.out 1 _ rfl, rfl, rfl, ?_, ?_⟩
  · have h := HGB.out
    rw [hrow] at h
    exact Below.setCell (p := ⟨w.heap.size + 1, 1, none⟩) ⟨h.os, h.tape, h.output, h.size, fun k hk => h.block k hk (by simp)⟩ (by show w.heap.size ≤ w.heap.size + 1; omega) _
  · refine Kd.S_far (p := ⟨w.heap.size + 1, 1, none⟩) (Kd.S_mono HS5.out (fun k hk => ?_)) (fun k hk => by show k ≠ w.heap.size + 1; omega) _
    rcases hk with ⟨h1, h2, h3⟩ | h1
    · exact h1
    · omega
end Go.Proofs.Ytoookgkhelcngaa.G
