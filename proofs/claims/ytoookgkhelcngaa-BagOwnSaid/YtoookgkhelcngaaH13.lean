/- Take takes a datagram: it is told, and the others are left. -/
import Derived.Test.YtoookgkhelcngaaH12
namespace Go.Proofs.Ytoookgkhelcngaa.G
open Go.RowKit Go.Proofs.YtoookgkhelcngaaW.PrintWords Go.Proofs.YtoookgkhelcngaaW.PrintLast Go.Proofs.YtoookgkhelcngaaW.PrintMore
open Go.Shelf
set_option linter.unusedVariables false
set_option linter.unusedSimpArgs false
attribute [local go_sem ↓] Go.wp_at_zero Go.wp_at_succ

theorem cell_set {W : World} {x y b j : Nat} {u v : Value} (h : W.cell? ⟨x, y, none⟩ = some v) (hne : x ≠ b) : (W.setCell ⟨b, j, none⟩ u).cell? ⟨x, y, none⟩ = some v := (World.cell?_setCell_other W ⟨b, j, none⟩ ⟨x, y, none⟩ u (fun e => hne (by cases e; rfl))).trans h

def bag_Take.f (l : List S26) (n : Int) (i : Int) : Option (List S26 × Int × Int × List Int × Bool × Bool) :=
  if fitsB l = true then (if 0 ≤ i ∧ i < l.length then some (l.eraseIdx i.toNat, n, (rd_T26 l i).f0, (rd_T26 l i).f1, (rd_T26 l i).f2, true) else some (l, n, 0, [], false, false)) else none

/-- What at answers when a datagram is to be taken. -/
def TakeGives (w : World) (tb : Nat) (l2 : List S26) (n2 : Int) (X0 : Int) (X1 : List Int) (X2 ok : Bool) (e : Ending) (W : World) : Prop := ∃ A2 m2 c2 A3 c3, e = .returned (.tuple #[.agg #[.slice A2 m2 c2, .int .i64 n2], .int .i64 (if ok then 0 else 2)]) ∧
  w.grownBy W (some tb) ∧ W.heap[tb]? = some (.cells #[.int .i64 X0, .slice A3 X1.length c3, .bool X2] 26 (0, 0)) ∧ (Kd.int .u8).R 5 W w.heap.size (fun k => w.heap.size + 1 < k) (.slice A3 X1.length c3) X1 ∧
  Kd.S k26 26 W w.heap.size (fun k => w.heap.size + 1 < k ∧ some k ≠ (Value.slice A3 X1.length c3).ownBlock) (.slice A2 m2 c2) l2

theorem at_take (A : Option Addr) (c : Nat) (l : List S26) (n i : Int) (tb ib : Nat) (w : World) (l2 : List S26) (n2 X0 : Int) (X1 : List Int) (X2 ok : Bool) (hr : Kd.C k26 w A l.length l) (hc : l.length ≤ c) (htw : tb < w.heap.size) (hiw : ib < w.heap.size) (hti : tb ≠ ib)
    (ht : w.heap[tb]? = some (.cells #[.int .i64 0, .slice none 0 0, .bool false] 26 (0, 0))) (hib : w.heap[ib]? = some (.cells #[.int .i64 i] 3 (0, 0))) (hf : bag_Take.f l n i = some (l2, n2, X0, X1, X2, ok)) :
    Calls Try.prog 22 #[.agg #[.slice A l.length c, .int .i64 n], .int .i64 i, .func (.func 23) #[] #[.pointer (some ⟨tb, 0, none⟩), .pointer (some ⟨ib, 0, none⟩)]] w (TakeGives w tb l2 n2 X0 X1 X2 ok) := by
  unfold bag_Take.f at hf
  by_cases hx : fitsB l = true
  · rw [if_pos hx] at hf
    obtain ⟨h1, h2, h3⟩ := fitsB_1 hx
    by_cases hi : 0 ≤ i ∧ i < l.length
    · rw [if_pos hi] at hf
      have hii : ((i.toNat : Nat) : Int) = i := Int.toNat_of_nonneg hi.1
      simp only [Option.some.injEq, Prod.mk.injEq] at hf
      obtain ⟨rfl, rfl, rfl, rfl, rfl, rfl⟩ := hf
      refine (at_23 A c l n i tb ib w ⟨h2, h3⟩ hr hc hi (fun r v2 n2 W => (∃ A m c, v2 = .slice A m c) ∧ TakePost w tb l n i.toNat r v2 n2 W) (fun r v2 n2 W j u h => ⟨h.1, h.2.1, h.2.2.1, grownBy_new h.2.2.2.1 (by omega) j u, ?_⟩) ?_).mono ?_
      · obtain ⟨A3, c3, hb, hR, hS⟩ := h.2.2.2.2
        exact ⟨A3, c3, blk_far hb (by show tb ≠ w.heap.size + 1; omega) _, Kd.R_far (p := ⟨w.heap.size + 1, j, none⟩) hR (fun k hk => by show k ≠ w.heap.size + 1; omega) u, Kd.S_far (p := ⟨w.heap.size + 1, j, none⟩) hS (fun k hk => by show k ≠ w.heap.size + 1; have := hk.1; omega) u⟩
      · intro W g cg hB hg hob hS
        refine (take1 w W tb ib g cg l n i hi h1 htw hiw hti hB hg hob hS ht hib).mono ?_
        rintro e W' ⟨r, A2, m2, c2, n2, he, hb, hp⟩
        exact ⟨r, A2, m2, c2, n2, he, hb, ⟨_, _, _, rfl⟩, hp⟩
      · rintro e W' ⟨r, v2, n2, rfl, ⟨A2, m2, c2, rfl⟩, rfl, rfl, hg, A3, c3, hb, hR, hS⟩
        rw [hii] at hb hR hS
        exact ⟨A2, m2, c2, A3, c3, rfl, hg, hb, hR, hS⟩
    · rw [if_neg hi] at hf
      simp only [Option.some.injEq, Prod.mk.injEq] at hf
      obtain ⟨rfl, rfl, rfl, rfl, rfl, rfl⟩ := hf
      refine (at_none A c l n i _ w ⟨h2, h3⟩ hr hc hi).mono ?_
      rintro e W' ⟨v0, rfl, hS, hB⟩
      obtain ⟨A2, c2, rfl⟩ := Kd.S_slice hS
      exact ⟨A2, _, c2, none, 0, rfl, grown_of_below hB _, (hB.block _ htw).trans ht, Kd.R_nil _ _ _ _ _, Kd.S_mono hS (fun k hk => ⟨hk, by simp [Value.ownBlock]⟩)⟩
  · rw [if_neg hx] at hf
    cases hf

set_option maxRecDepth 100000 in
set_option maxHeartbeats 8000000 in
theorem bag_Take.calls (A0_0 : Option Addr) (c0_0 : Nat) (l0_0 : List S26) (a0_1 : Int) (a1 : Int) (r1 : List S26) (r2 : Int) (r3 : Int) (r4 : List Int) (r5 r6 : Bool) (w : World) (hr0_0 : Kd.C k26 w A0_0 l0_0.length l0_0) (hc0_0 : l0_0.length ≤ c0_0) (h : bag_Take.f l0_0 a0_1 a1 = some (r1, r2, r3, r4, r5, r6)) :
    Calls Try.prog 9 #[.agg #[.slice A0_0 l0_0.length c0_0, .int .i64 a0_1], .int .i64 a1] w fun e w' => ∃ v0_ v3_ : Value, e = .returned (.tuple #[.agg #[v0_, .int .i64 r2], .agg #[.int .i64 r3, v3_, .bool r5], .bool r6]) ∧ Kd.S k26 26 w' w.heap.size (fun k_ => some k_ ≠ (v3_ : Value).ownBlock) v0_ r1 ∧ Kd.R (Kd.int .u8) 5 w' w.heap.size (fun _ => True) v3_ r4 ∧ Below w.heap.size w w' := by
  have HR := Aside0.mk hr0_0
  have HC := Aside0.mk hc0_0
  have H := Aside0.mk h
  clear hr0_0 hc0_0 h
  obtain ⟨W3, hW3⟩ : ∃ W3, (((((w.alloc (.cells #[.slice A0_0 l0_0.length c0_0, .int .i64 a0_1] 28)).alloc (.cells #[.int .i64 a1] 3)).alloc (.cells #[.slice none 0 0, .int .i64 0] 28)).alloc (.cells #[.int .i64 0, .slice none 0 0, .bool false] 26)).alloc (.cells #[.int .i64 0, .slice none 0 0, .bool false] 26)) = W3 := ⟨_, rfl⟩
  have hB3 : Below w.heap.size w W3 := by rw [← hW3]; exact below_alloc (below_alloc (below_alloc (below_alloc (below_alloc (Below.refl _ _) _) _) _) _) _
  have hs3 : W3.heap.size = w.heap.size + 5 := by rw [← hW3]; simp
  have hb0 : W3.heap[w.heap.size]? = some (.cells #[.slice A0_0 l0_0.length c0_0, .int .i64 a0_1] 28 (0, 0)) := by rw [← hW3]; exact blk_alloc (blk_alloc (blk_alloc (blk_alloc (World.alloc_heap_new w _) _) _) _) _
  have hb1 : W3.heap[w.heap.size + 1]? = some (.cells #[.int .i64 a1] 3 (0, 0)) := by rw [← hW3]; exact blk_alloc (blk_alloc (blk_alloc (by have h := World.alloc_heap_new (w.alloc (.cells #[.slice A0_0 l0_0.length c0_0, .int .i64 a0_1] 28)) (.cells #[.int .i64 a1] 3); simpa using h) _) _) _
  have hb2 : W3.heap[w.heap.size + 1 + 1]? = some (.cells #[.slice none 0 0, .int .i64 0] 28 (0, 0)) := by rw [← hW3]; exact blk_alloc (blk_alloc (by have h := World.alloc_heap_new ((w.alloc (.cells #[.slice A0_0 l0_0.length c0_0, .int .i64 a0_1] 28)).alloc (.cells #[.int .i64 a1] 3)) (.cells #[.slice none 0 0, .int .i64 0] 28); simpa using h) _) _
  have hb3 : W3.heap[w.heap.size + 1 + 1 + 1]? = some (.cells #[.int .i64 0, .slice none 0 0, .bool false] 26 (0, 0)) := by rw [← hW3]; exact blk_alloc (by have h := World.alloc_heap_new (((w.alloc (.cells #[.slice A0_0 l0_0.length c0_0, .int .i64 a0_1] 28)).alloc (.cells #[.int .i64 a1] 3)).alloc (.cells #[.slice none 0 0, .int .i64 0] 28)) (.cells #[.int .i64 0, .slice none 0 0, .bool false] 26); simpa using h) _
  have hb4 : W3.heap[w.heap.size + 1 + 1 + 1 + 1]? = some (.cells #[.int .i64 0, .slice none 0 0, .bool false] 26 (0, 0)) := by rw [← hW3]; have h := World.alloc_heap_new ((((w.alloc (.cells #[.slice A0_0 l0_0.length c0_0, .int .i64 a0_1] 28)).alloc (.cells #[.int .i64 a1] 3)).alloc (.cells #[.slice none 0 0, .int .i64 0] 28)).alloc (.cells #[.int .i64 0, .slice none 0 0, .bool false] 26)) (.cells #[.int .i64 0, .slice none 0 0, .bool false] 26); simpa using h
  have hc0 : W3.cell? ⟨w.heap.size, 0, none⟩ = some (.slice A0_0 l0_0.length c0_0) := (blk_cell hb0 0).trans rfl
  have hc1 : W3.cell? ⟨w.heap.size, 1, none⟩ = some (.int .i64 a0_1) := (blk_cell hb0 1).trans rfl
  have hc2 : W3.cell? ⟨w.heap.size + 1, 0, none⟩ = some (.int .i64 a1) := (blk_cell hb1 0).trans rfl
  have hr3 := Kd.C_below HR.out hB3
  have hat := at_take A0_0 c0_0 l0_0 a0_1 a1 (w.heap.size + 1 + 1 + 1 + 1) (w.heap.size + 1) W3 r1 r2 r3 r4 r5 r6 hr3 HC.out (by omega) (by omega) (by omega) hb4 hb1 H.out
  have HAT := Aside0.mk hat
  have HB3 := Aside0.mk hB3
  have HB2 := Aside0.mk hb2
  have HB3' := Aside0.mk hb3
  have HS3 := Aside0.mk hs3
  clear hat hB3 hb0 hb1 hb2 hb3 hb4 hs3 hr3
  go_enter Try.func9, Try.ntmps9
  go_wp2_with (go_at_call 22; refine Stop.out ?_)
  refine ⟨?_⟩
  clear hW3 hc0 hc1 hc2
  refine HAT.out.mono ?_
  rintro e w5 ⟨A2, m2, c2, A3, c3, rfl, hg, hb, hRb, hS⟩
  obtain ⟨oc, hoc⟩ : ∃ oc : Int, (if r6 then (0 : Int) else 2) = oc := ⟨_, rfl⟩
  have hocb : (oc == 0) = r6 := by rw [← hoc]; cases r6 <;> rfl
  have hlen := Kd.R_reads' hRb
  rw [hoc]
  have HG := Aside0.mk hg
  have HB := Aside0.mk hb
  have HRB := Aside0.mk hRb
  have HS := Aside0.mk hS
  clear hg hb hRb hS hoc HAT HR H hlen
  dsimp only
  go_upto_region 3 with (fail)
  obtain ⟨q, hq⟩ : ∃ q, w5.heap.size = q := ⟨_, rfl⟩
  obtain ⟨W7, hW7⟩ : ∃ W7, w5.alloc (.cells #[.slice A2 m2 c2, .int .i64 r2] 28) = W7 := ⟨_, rfl⟩
  have hq5 : w.heap.size + 5 ≤ q := by have := HG.out.size; have := HS3.out; omega
  have hbq : W7.heap[q]? = some (.cells #[.slice A2 m2 c2, .int .i64 r2] 28 (0, 0)) := by rw [← hW7, ← hq]; exact World.alloc_heap_new w5 _
  have hbt : W7.heap[w.heap.size + 1 + 1 + 1 + 1]? = some (.cells #[.int .i64 r3, .slice A3 r4.length c3, .bool r5] 26 (0, 0)) := by rw [← hW7]; exact blk_alloc HB.out _
  have hb4 : W7.heap[w.heap.size + 1 + 1]? = some (.cells #[.slice none 0 0, .int .i64 0] 28 (0, 0)) := by rw [← hW7]; exact blk_alloc ((HG.out.block _ (by have := HS3.out; omega) (by simp)).trans HB2.out) _
  have hb5 : W7.heap[w.heap.size + 1 + 1 + 1]? = some (.cells #[.int .i64 0, .slice none 0 0, .bool false] 26 (0, 0)) := by rw [← hW7]; exact blk_alloc ((HG.out.block _ (by have := HS3.out; omega) (by simp)).trans HB3'.out) _
  have HR4 := Aside0.mk hb4
  have HR5 := Aside0.mk hb5
  have hq0 : W7.cell? ⟨q, 0, none⟩ = some (.slice A2 m2 c2) := (blk_cell hbq 0).trans rfl
  have hq1 : W7.cell? ⟨q, 1, none⟩ = some (.int .i64 r2) := (blk_cell hbq 1).trans rfl
  have hq2 : W7.cell? ⟨w.heap.size + 1 + 1 + 1 + 1, 0, none⟩ = some (.int .i64 r3) := (blk_cell hbt 0).trans rfl
  have hq3 : W7.cell? ⟨w.heap.size + 1 + 1 + 1 + 1, 1, none⟩ = some (.slice A3 r4.length c3) := (blk_cell hbt 1).trans rfl
  have hq4 : W7.cell? ⟨w.heap.size + 1 + 1 + 1 + 1, 2, none⟩ = some (.bool r5) := (blk_cell hbt 2).trans rfl
  have HS7 := Aside0.mk (show Kd.S k26 26 W7 W3.heap.size (fun k => W3.heap.size + 1 < k ∧ some k ≠ (Value.slice A3 r4.length c3).ownBlock) (.slice A2 m2 c2) r1 by rw [← hW7]; exact Kd.S_alloc HS.out _)
  have HR7 := Aside0.mk (show (Kd.int .u8).R 5 W7 W3.heap.size (fun k => W3.heap.size + 1 < k) (.slice A3 r4.length c3) r4 by rw [← hW7]; exact Kd.R_alloc HRB.out _)
  have HB7 := Aside0.mk (show Below w.heap.size w W7 by
    rw [← hW7]
    exact below_alloc ⟨HG.out.os.trans HB3.out.os, HG.out.tape.trans HB3.out.tape, HG.out.output.trans HB3.out.output, Nat.le_trans HB3.out.size HG.out.size, fun k hk => (HG.out.block k (by have := HS3.out; omega) (by simp; omega)).trans (HB3.out.block k hk)⟩ _)
  rw [hq, hW7]
  clear hW7 hq hbq hbt hb4 hb5 HG HB HRB HS HB2 HB3'
  refine start_ (n := 7) (S := fun w' => w'.cell? ⟨q, 0, none⟩ = some (.slice A2 m2 c2) ∧ w'.cell? ⟨q, 1, none⟩ = some (.int .i64 r2) ∧ w'.cell? ⟨w.heap.size + 1 + 1 + 1 + 1, 0, none⟩ = some (.int .i64 r3) ∧ w'.cell? ⟨w.heap.size + 1 + 1 + 1 + 1, 1, none⟩ = some (.slice A3 r4.length c3) ∧ w'.cell? ⟨w.heap.size + 1 + 1 + 1 + 1, 2, none⟩ = some (.bool r5)) (ds := []) #[false, false, false, false, false, false, false] (by kernel_rfl) rfl rfl ⟨hq0, hq1, hq2, hq3, hq4⟩ (fun hHeld => ?_)
  obtain ⟨Wd, hWd⟩ : ∃ Wd, W7.drew = Wd := ⟨_, rfl⟩
  have hd0 := by have h := hq0; rw [show W7.cell? = W7.drew.cell? from rfl, hWd] at h; exact h
  have hd1 := by have h := hq1; rw [show W7.cell? = W7.drew.cell? from rfl, hWd] at h; exact h
  have hd2 := by have h := hq2; rw [show W7.cell? = W7.drew.cell? from rfl, hWd] at h; exact h
  have hd3 := by have h := hq3; rw [show W7.cell? = W7.drew.cell? from rfl, hWd] at h; exact h
  have hd4 := by have h := hq4; rw [show W7.cell? = W7.drew.cell? from rfl, hWd] at h; exact h
  have hr0 : Wd.heap[w.heap.size + 1 + 1]? = some (.cells #[.slice none 0 0, .int .i64 0] 28 (0, 0)) := by rw [← hWd]; exact HR4.out
  have hr1 : Wd.heap[w.heap.size + 1 + 1 + 1]? = some (.cells #[.int .i64 0, .slice none 0 0, .bool false] 26 (0, 0)) := by rw [← hWd]; exact HR5.out
  have he0 : Wd.cell? ⟨w.heap.size + 1 + 1, 0, none⟩ = some (.slice none 0 0) := (blk_cell hr0 0).trans rfl
  have he1 : Wd.cell? ⟨w.heap.size + 1 + 1, 1, none⟩ = some (.int .i64 0) := (blk_cell hr0 1).trans rfl
  have he2 : Wd.cell? ⟨w.heap.size + 1 + 1 + 1, 0, none⟩ = some (.int .i64 0) := (blk_cell hr1 0).trans rfl
  have he3 : Wd.cell? ⟨w.heap.size + 1 + 1 + 1, 1, none⟩ = some (.slice none 0 0) := (blk_cell hr1 1).trans rfl
  have he4 : Wd.cell? ⟨w.heap.size + 1 + 1 + 1, 2, none⟩ = some (.bool false) := (blk_cell hr1 2).trans rfl
  have hf0 := blk_frozen hr0 0
  have hf1 := blk_frozen hr0 1
  have hf2 := blk_frozen hr1 0
  have hf3 := blk_frozen hr1 1
  have hf4 := blk_frozen hr1 2
  have hne1 : w.heap.size + 1 + 1 ≠ w.heap.size + 1 + 1 + 1 := by omega
  have hne2 : w.heap.size + 1 + 1 + 1 ≠ w.heap.size + 1 + 1 := by omega
  rw [hWd] at hHeld ⊢
  clear hq0 hq1 hq2 hq3 hq4
  refine pure_ (i := 2) (N := some 19) (v := ?_) (a' := ?_) #[false, false, true, false, false, false, false] rfl rfl (by kernel_rfl) (fun _ _ _ h => h) (Or.inl ⟨by rfl, ?_⟩) ?_ ?_
  rotate_left
  · intro w'
    go_simp
    with_reducible rfl
  rotate_left
  · simp only [Act.put, List.setIfInBounds_toArray, List.set_cons_zero, List.set_cons_succ, i64_w, i32_w]
    rfl
  refine pure_ (i := 3) (N := some 20) (v := ?_) (a' := ?_) #[false, false, true, true, false, false, false] rfl rfl (by kernel_rfl) (fun _ _ _ h => h) (Or.inl ⟨by rfl, ?_⟩) ?_ ?_
  rotate_left
  · intro w'
    go_simp
    with_reducible rfl
  rotate_left
  · simp only [Act.put, List.setIfInBounds_toArray, List.set_cons_zero, List.set_cons_succ, i64_w, i32_w]
    rfl
  refine take_ (i := 0) (N := some 17) (v := ?_) (a' := ?_) #[true, false, true, true, false, false, false] rfl rfl (by kernel_rfl) (fun _ _ _ h => h) (Or.inl ⟨by rfl, ?_⟩) hHeld ?_ ?_
  rotate_left
  · rintro w' ⟨s0, s1, s2, s3, s4⟩
    go_simp
    with_reducible rfl
  rotate_left
  · simp only [Act.put, List.setIfInBounds_toArray, List.set_cons_zero, List.set_cons_succ, i64_w, i32_w]
    rfl
  refine take_ (i := 1) (N := some 18) (v := ?_) (a' := ?_) #[true, true, true, true, false, false, false] rfl rfl (by kernel_rfl) (fun _ _ _ h => h) (Or.inl ⟨by rfl, ?_⟩) hHeld ?_ ?_
  rotate_left
  · rintro w' ⟨s0, s1, s2, s3, s4⟩
    go_simp
    with_reducible rfl
  rotate_left
  · simp only [Act.put, List.setIfInBounds_toArray, List.set_cons_zero, List.set_cons_succ, i64_w, i32_w]
    rfl
  refine one_ (i := 4) (N := none) #[true, true, true, true, true, false, false] rfl rfl (by kernel_rfl) (by decide) (fun K hK => ?_)
  refine skip_ (w1 := ?_) (by rfl) rfl ?_ ?_
  rotate_left
  · go_simp
    rfl
  refine hK.out _ _ ⟨cell_set (cell_set hd0 (by omega)) (by omega), cell_set (cell_set hd1 (by omega)) (by omega), cell_set (cell_set hd2 (by omega)) (by omega), cell_set (cell_set hd3 (by omega)) (by omega), cell_set (cell_set hd4 (by omega)) (by omega)⟩ (fun hHeld => ?_)
  clear hK K
  refine one_ (i := 5) (N := none) #[true, true, true, true, true, true, false] rfl rfl (by kernel_rfl) (by decide) (fun K hK => ?_)
  refine skip_ (w1 := ?_) (by rfl) rfl ?_ ?_
  rotate_left
  · go_simp
    rfl
  refine hK.out _ _ ⟨cell_set (cell_set (cell_set (cell_set (cell_set hd0 (by omega)) (by omega)) (by omega)) (by omega)) (by omega), cell_set (cell_set (cell_set (cell_set (cell_set hd1 (by omega)) (by omega)) (by omega)) (by omega)) (by omega), cell_set (cell_set (cell_set (cell_set (cell_set hd2 (by omega)) (by omega)) (by omega)) (by omega)) (by omega), cell_set (cell_set (cell_set (cell_set (cell_set hd3 (by omega)) (by omega)) (by omega)) (by omega)) (by omega), cell_set (cell_set (cell_set (cell_set (cell_set hd4 (by omega)) (by omega)) (by omega)) (by omega)) (by omega)⟩ (fun hHeld => ?_)
  clear hK K
  refine pure_ (i := 6) (N := some 6) (v := ?_) (a' := ?_) #[true, true, true, true, true, true, true] rfl rfl (by kernel_rfl) (fun _ _ _ h => h) (Or.inl ⟨by rfl, ?_⟩) ?_ ?_
  rotate_left
  · intro w'
    go_simp
    with_reducible rfl
  rotate_left
  · simp only [Act.put, List.setIfInBounds_toArray, List.set_cons_zero, List.set_cons_succ, i64_w, i32_w]
    rfl
  refine done_ (by kernel_rfl) ?_
  go_wp2
  have hb7 : Below w.heap.size w Wd := by rw [← hWd]; exact HB7.out.drew
  have hS7 : Kd.S k26 26 Wd W3.heap.size (fun k => W3.heap.size + 1 < k ∧ some k ≠ (Value.slice A3 r4.length c3).ownBlock) (.slice A2 m2 c2) r1 := by rw [← hWd]; exact Kd.S_drew HS7.out
  have hR7 : (Kd.int .u8).R 5 Wd W3.heap.size (fun k => W3.heap.size + 1 < k) (.slice A3 r4.length c3) r4 := by rw [← hWd]; exact Kd.R_drew HR7.out
  have hs3 := HS3.out
  refine bodyPost_ret (results_list (rs := [.cell 4 28, .cell 5 26, .tmp 6]) rfl (by simp) (.cell (w.heap.size + 1 + 1) 28 #[.slice A2 m2 c2, .int .i64 r2] (0, 0) _ rfl (blk_far (blk_far (blk_far (blk_put (cs := #[.slice A2 m2 c2, .int .i64 0]) (blk_put (cs := #[.slice none 0 0, .int .i64 0]) hr0 0 _ rfl) 1 _ rfl) hne1 _) hne1 _) hne1 _) Try.underlying28 rfl (by kernel_rfl)
    (.cell (w.heap.size + 1 + 1 + 1) 26 #[.int .i64 r3, .slice A3 r4.length c3, .bool r5] (0, 0) _ rfl (blk_put (cs := #[.int .i64 r3, .slice A3 r4.length c3, .bool false]) (blk_put (cs := #[.int .i64 r3, .slice none 0 0, .bool false]) (blk_put (cs := #[.int .i64 0, .slice none 0 0, .bool false]) (blk_far (blk_far hr1 hne2 _) hne2 _) 0 _ rfl) 1 _ rfl) 2 _ rfl) Try.underlying26 rfl (by kernel_rfl) (.tmp .nil)))) rfl ?_
  refine ⟨_, _, rfl, ?_, ?_, ?_⟩
  · refine Kd.S_mono (ok := fun k => W3.heap.size + 1 < k ∧ some k ≠ (Value.slice A3 r4.length c3).ownBlock) ?_ (fun k hk => hk.2)
    exact Kd.S_far (p := ⟨w.heap.size + 1 + 1 + 1, 2, none⟩) (Kd.S_far (p := ⟨w.heap.size + 1 + 1 + 1, 1, none⟩) (Kd.S_far (p := ⟨w.heap.size + 1 + 1 + 1, 0, none⟩) (Kd.S_far (p := ⟨w.heap.size + 1 + 1, 1, none⟩) (Kd.S_far (p := ⟨w.heap.size + 1 + 1, 0, none⟩) (Kd.S_lower hS7 (by omega)) (fun k hk => by have := hk.1; show k ≠ w.heap.size + 1 + 1; omega) _) (fun k hk => by have := hk.1; show k ≠ w.heap.size + 1 + 1; omega) _) (fun k hk => by have := hk.1; show k ≠ w.heap.size + 1 + 1 + 1; omega) _) (fun k hk => by have := hk.1; show k ≠ w.heap.size + 1 + 1 + 1; omega) _) (fun k hk => by have := hk.1; show k ≠ w.heap.size + 1 + 1 + 1; omega) _
  · refine Kd.R_mono (ok := fun k => W3.heap.size + 1 < k) ?_ (fun _ _ => trivial)
    exact Kd.R_far (p := ⟨w.heap.size + 1 + 1 + 1, 2, none⟩) (Kd.R_far (p := ⟨w.heap.size + 1 + 1 + 1, 1, none⟩) (Kd.R_far (p := ⟨w.heap.size + 1 + 1 + 1, 0, none⟩) (Kd.R_far (p := ⟨w.heap.size + 1 + 1, 1, none⟩) (Kd.R_far (p := ⟨w.heap.size + 1 + 1, 0, none⟩) (Kd.R_lower hR7 (by omega)) (fun k hk => by show k ≠ w.heap.size + 1 + 1; omega) _) (fun k hk => by show k ≠ w.heap.size + 1 + 1; omega) _) (fun k hk => by show k ≠ w.heap.size + 1 + 1 + 1; omega) _) (fun k hk => by show k ≠ w.heap.size + 1 + 1 + 1; omega) _) (fun k hk => by show k ≠ w.heap.size + 1 + 1 + 1; omega) _
  · exact ((((hb7.setCell (p := ⟨w.heap.size + 1 + 1, 0, none⟩) (by show w.heap.size ≤ w.heap.size + 1 + 1; omega) _).setCell (p := ⟨w.heap.size + 1 + 1, 1, none⟩) (by show w.heap.size ≤ w.heap.size + 1 + 1; omega) _).setCell (p := ⟨w.heap.size + 1 + 1 + 1, 0, none⟩) (by show w.heap.size ≤ w.heap.size + 1 + 1 + 1; omega) _).setCell (p := ⟨w.heap.size + 1 + 1 + 1, 1, none⟩) (by show w.heap.size ≤ w.heap.size + 1 + 1 + 1; omega) _).setCell (p := ⟨w.heap.size + 1 + 1 + 1, 2, none⟩) (by show w.heap.size ≤ w.heap.size + 1 + 1 + 1; omega) _
end Go.Proofs.Ytoookgkhelcngaa.G
