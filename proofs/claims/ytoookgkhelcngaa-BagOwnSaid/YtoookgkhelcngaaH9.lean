/- What Twice does to a bag's copy: a datagram is sent once more. -/
import Derived.Test.YtoookgkhelcngaaH8
namespace Go.Proofs.Ytoookgkhelcngaa.G
open Go.RowKit Go.Proofs.YtoookgkhelcngaaW.PrintWords Go.Proofs.YtoookgkhelcngaaW.PrintLast Go.Proofs.YtoookgkhelcngaaW.PrintMore
open Go.Shelf
set_option linter.unusedVariables false
set_option linter.unusedSimpArgs false
attribute [local go_sem ↓] Go.wp_at_zero Go.wp_at_succ

/-- A row of one datagram, out of a block. -/
theorem C_one {W : World} {b : Nat} {X0 : Int} {X1 : List Int} {X2 : Bool} {A1 : Option Addr} {c1 : Nat} (hb : W.heap[b]? = some (.cells #[.int .i64 X0, .slice A1 X1.length c1, .bool X2] 26 (0, 0))) (hc : X1.length ≤ c1) (h : (Kd.int .u8).C W A1 X1.length X1) :
    Kd.C k26 W (some ⟨b, 0, none⟩) ([⟨X0, X1, X2⟩] : List S26).length [⟨X0, X1, X2⟩] := by
  refine ⟨rfl, by simp, fun _ => ⟨_, rfl, fun j p hj => ?_⟩⟩
  obtain ⟨rfl, rfl⟩ : j = 0 ∧ p = ⟨X0, X1, X2⟩ := by
    rcases j with _ | j
    · simp at hj; exact ⟨rfl, hj.symm⟩
    · simp at hj
  refine ⟨[.int .i64 X0, .slice A1 X1.length c1, .bool X2], rfl, k26_mk W ⟨X0, X1, X2⟩ hc h, fun i u hu => ?_⟩
  rw [add_plain, Nat.zero_mul, Nat.zero_add]
  have := blk_cell hb i
  rw [this]
  simpa using hu

/-- What Twice's closure leaves. -/
def TwicePost (w : World) (l : List S26) (n : Int) (m : Nat) (r : Bool) (v2 : Value) (n2 : Int) (W : World) : Prop :=
  r = true ∧ n2 = (sendAll l n [rd_T26 l m]).2 ∧ Below w.heap.size w W ∧ Kd.S k26 26 W w.heap.size (fun k => w.heap.size + 1 < k) v2 (sendAll l n [rd_T26 l m]).1

set_option maxRecDepth 100000 in
set_option maxHeartbeats 8000000 in
theorem twice1 (w W : World) (g cg : Nat) (l : List S26) (n i : Int) (hi : 0 ≤ i ∧ i < l.length) (hxl : l.length ≤ 1000000000 ∧ l.all (fun x => decide (x.f1.length ≤ 140737488355328)) = true) (hB : Below w.heap.size w W) (hg : w.heap.size + 1 < g)
    (hob : W.heap[w.heap.size + 1]? = some (.cells #[.slice (some ⟨g, 0, none⟩) l.length cg, .int .i64 n] 28 (0, 0))) (hS : Kd.S k26 26 W w.heap.size (fun k => w.heap.size + 1 < k) (.slice (some ⟨g, 0, none⟩) l.length cg) l) :
    Calls Try.prog 27 #[.pointer (some ⟨w.heap.size + 1, 0, none⟩), .pointer (some ⟨g, i.toNat * 3, none⟩)] W fun e W' => ∃ r A2 m2 c2 n2, e = .returned (.bool r) ∧ W'.heap[w.heap.size + 1]? = some (.cells #[.slice A2 m2 c2, .int .i64 n2] 28 (0, 0)) ∧ TwicePost w l n i.toNat r (.slice A2 m2 c2) n2 W' := by
  obtain ⟨m, rfl⟩ := Int.eq_ofNat_of_zero_le hi.1
  have hm : m < l.length := by have := hi.2; omega
  have hcc := (Kd.S_reads' hS).2.2
  obtain ⟨ad, A1, c1, he, hx0, hx1, hx2, hl1, hi1⟩ := at_T26 hcc (m : Int) (by omega) (by omega)
  injection he with he
  subst he
  rw [Int.toNat_natCast, add_plain] at hx0 hx1 hx2
  dsimp only at hx0 hx1 hx2
  have hfx : (rd_T26 l m).f1.length ≤ 140737488355328 := (own_fits hxl).at m hm
  rw [Int.toNat_natCast]
  unfold TwicePost
  have hse : bag_Send.f l n [rd_T26 l m] = some ((sendAll l n [rd_T26 l m]).1, (sendAll l n [rd_T26 l m]).2) := by
    unfold bag_Send.f
    rw [if_pos ⟨hxl, by simp, by simpa using hfx⟩]
  obtain ⟨⟨X0, X1, X2⟩, hX⟩ : ∃ x, rd_T26 l m = x := ⟨_, rfl⟩
  rw [hX] at hx0 hx1 hx2 hl1 hi1 hse ⊢
  dsimp only at hx0 hx1 hx2 hl1 hi1
  have hq0 : W.cell? ⟨w.heap.size + 1, 0, none⟩ = some (.slice (some ⟨g, 0, none⟩) l.length cg) := (blk_cell hob 0).trans rfl
  have hq1 : W.cell? ⟨w.heap.size + 1, 1, none⟩ = some (.int .i64 n) := (blk_cell hob 1).trans rfl
  have HOB := Aside0.mk hob
  have HS := Aside0.mk hS
  have HBW := Aside0.mk hB
  have HCB := Aside0.mk hi1
  have HLC := Aside0.mk hl1
  have HSE := Aside0.mk hse
  clear hob hS hB hi1 hl1 hse hcc hX hfx hxl
  go_enter Try.func27, Try.ntmps27
  go_upto_region 1 with (fail)
  refine start_ (n := 11) (S := fun w' => w'.cell? ⟨w.heap.size + 1, 0, none⟩ = some (.slice (some ⟨g, 0, none⟩) l.length cg) ∧ w'.cell? ⟨w.heap.size + 1, 1, none⟩ = some (.int .i64 n) ∧ w'.cell? ⟨g, m * 3, none⟩ = some (.int .i64 X0) ∧ w'.cell? ⟨g, m * 3 + 1, none⟩ = some (.slice A1 X1.length c1) ∧ w'.cell? ⟨g, m * 3 + 2, none⟩ = some (.bool X2)) (ds := [10]) #[false, false, false, false, false, false, false, false, false, false, false] (by kernel_rfl) rfl rfl ⟨hq0, hq1, hx0, hx1, hx2⟩ (fun hHeld => ?_)
  obtain ⟨Wd, hWd⟩ : ∃ Wd, W.drew = Wd := ⟨_, rfl⟩
  have hod : Wd.heap[w.heap.size + 1]? = some (.cells #[.slice (some ⟨g, 0, none⟩) l.length cg, .int .i64 n] 28 (0, 0)) := by rw [← hWd]; exact HOB.out
  have hd0 := by have h := hq0; rw [show W.cell? = W.drew.cell? from rfl, hWd] at h; exact h
  have hd1 := by have h := hq1; rw [show W.cell? = W.drew.cell? from rfl, hWd] at h; exact h
  have hd2 := by have h := hx0; rw [show W.cell? = W.drew.cell? from rfl, hWd] at h; exact h
  have hd3 := by have h := hx1; rw [show W.cell? = W.drew.cell? from rfl, hWd] at h; exact h
  have hd4 := by have h := hx2; rw [show W.cell? = W.drew.cell? from rfl, hWd] at h; exact h
  have hSd : Kd.S k26 26 Wd w.heap.size (fun k => w.heap.size + 1 < k) (.slice (some ⟨g, 0, none⟩) l.length cg) l := by rw [← hWd]; exact Kd.S_drew HS.out
  have hBd : Below w.heap.size w Wd := by rw [← hWd]; exact HBW.out.drew
  have hCd : (Kd.int .u8).C Wd A1 X1.length X1 := by rw [← hWd]; exact HCB.out
  rw [hWd] at hHeld ⊢
  clear hq0 hq1 hx0 hx1 hx2
  have hba := World.alloc_heap_new Wd (.cells #[.int .i64 X0, .slice A1 X1.length c1, .bool X2] 26)
  have hrow : Kd.C k26 (Wd.alloc (.cells #[.int .i64 X0, .slice A1 X1.length c1, .bool X2] 26)) (some ⟨Wd.heap.size, 0, none⟩) ([⟨X0, X1, X2⟩] : List S26).length [⟨X0, X1, X2⟩] := C_one hba HLC.out (Kd.C_below hCd (below_alloc (Below.refl _ _) _))
  have hcon := bag_Send.calls (some ⟨g, 0, none⟩) cg l n (some ⟨Wd.heap.size, 0, none⟩) 1 [⟨X0, X1, X2⟩] _ _ (Wd.alloc (.cells #[.int .i64 X0, .slice A1 X1.length c1, .bool X2] 26)) (Kd.C_below (Kd.S_reads' hSd).2.2 (below_alloc (Below.refl _ _) _)) (Kd.S_reads' hSd).2.1 hrow (Nat.le_refl _) HSE.out
  rw [show ([(⟨X0, X1, X2⟩ : S26)]).length = 1 from rfl] at hcon
  refine pure_ (i := 0) (N := some 5) (v := ?_) (a' := ?_) #[true, false, false, false, false, false, false, false, false, false, false] rfl rfl (by kernel_rfl) (fun _ _ _ h => h) (Or.inl ⟨by rfl, ?_⟩) ?_ ?_
  rotate_left
  · intro w'
    go_simp
    with_reducible rfl
  rotate_left
  · simp only [Act.put, List.setIfInBounds_toArray, List.set_cons_zero, List.set_cons_succ, i64_w, i32_w]
    rfl
  refine pure_ (i := 1) (N := some 6) (v := ?_) (a' := ?_) #[true, true, false, false, false, false, false, false, false, false, false] rfl rfl (by kernel_rfl) (fun _ _ _ h => h) (Or.inl ⟨by rfl, ?_⟩) ?_ ?_
  rotate_left
  · intro w'
    go_simp
    with_reducible rfl
  rotate_left
  · simp only [Act.put, List.setIfInBounds_toArray, List.set_cons_zero, List.set_cons_succ, i64_w, i32_w]
    rfl
  refine pure_ (i := 2) (N := some 7) (v := ?_) (a' := ?_) #[true, true, true, false, false, false, false, false, false, false, false] rfl rfl (by kernel_rfl) (fun _ _ _ h => h) (Or.inl ⟨by rfl, ?_⟩) ?_ ?_
  rotate_left
  · intro w'
    go_simp
    with_reducible rfl
  rotate_left
  · simp only [Act.put, List.setIfInBounds_toArray, List.set_cons_zero, List.set_cons_succ, i64_w, i32_w]
    rfl
  refine pure_ (i := 4) (N := some 9) (v := ?_) (a' := ?_) #[true, true, true, false, true, false, false, false, false, false, false] rfl rfl (by kernel_rfl) (fun _ _ _ h => h) (Or.inl ⟨by rfl, ?_⟩) ?_ ?_
  rotate_left
  · intro w'
    go_simp
    with_reducible rfl
  rotate_left
  · simp only [Act.put, List.setIfInBounds_toArray, List.set_cons_zero, List.set_cons_succ, i64_w, i32_w]
    rfl
  refine pure_ (i := 5) (N := some 10) (v := ?_) (a' := ?_) #[true, true, true, false, true, true, false, false, false, false, false] rfl rfl (by kernel_rfl) (fun _ _ _ h => h) (Or.inl ⟨by rfl, ?_⟩) ?_ ?_
  rotate_left
  · intro w'
    go_simp
    with_reducible rfl
  rotate_left
  · simp only [Act.put, List.setIfInBounds_toArray, List.set_cons_zero, List.set_cons_succ, i64_w, i32_w]
    rfl
  refine take_ (i := 3) (N := some 8) (v := ?_) (a' := ?_) #[true, true, true, true, true, true, false, false, false, false, false] rfl rfl (by kernel_rfl) (fun _ _ _ h => h) (Or.inl ⟨by rfl, ?_⟩) hHeld ?_ ?_
  rotate_left
  · rintro w' ⟨s0, s1, s2, s3, s4⟩
    go_simp
    with_reducible rfl
  rotate_left
  · simp only [Act.put, List.setIfInBounds_toArray, List.set_cons_zero, List.set_cons_succ, i64_w, i32_w]
    rfl
  refine take_ (i := 6) (N := some 11) (v := ?_) (a' := ?_) #[true, true, true, true, true, true, true, false, false, false, false] rfl rfl (by kernel_rfl) (fun _ _ _ h => h) (Or.inl ⟨by rfl, ?_⟩) hHeld ?_ ?_
  rotate_left
  · rintro w' ⟨s0, s1, s2, s3, s4⟩
    go_simp
    with_reducible rfl
  rotate_left
  · simp only [Act.put, List.setIfInBounds_toArray, List.set_cons_zero, List.set_cons_succ, i64_w, i32_w]
    rfl
  refine one_ (i := 7) (N := some 12) #[true, true, true, true, true, true, true, true, false, false, false] rfl rfl (by kernel_rfl) (by decide) (fun K hK => ?_)
  refine value_ (w1 := ?_) (v := ?_) (by rfl) rfl ?_ ?_
  rotate_left 2
  · go_simp
    constructor
    · rfl
    · rfl
  refine hK.out _ _ ⟨cell_keep (below_alloc (Below.refl _ _) _) hd0, cell_keep (below_alloc (Below.refl _ _) _) hd1, cell_keep (below_alloc (Below.refl _ _) _) hd2, cell_keep (below_alloc (Below.refl _ _) _) hd3, cell_keep (below_alloc (Below.refl _ _) _) hd4⟩ (fun hHeld => ?_)
  clear hK K
  refine norm_ (a' := ?_) ?_ ?_
  rotate_left
  · show Act.put _ (some 12) _ = _
    simp only [Act.put, List.setIfInBounds_toArray, List.set_cons_zero, List.set_cons_succ, i64_w, i32_w]
    rfl
  refine one_ (i := 8) (N := some 13) #[true, true, true, true, true, true, true, true, true, false, false] rfl rfl (by kernel_rfl) (by decide) (fun K hK => ?_)
  refine goes_ Try.func7 (by kernel_rfl) rfl #[.agg #[.slice (some ⟨g, 0, none⟩) l.length cg, .int .i64 n], .slice (some ⟨Wd.heap.size, 0, none⟩) 1 1] (by rfl) rfl rfl (by simp only [List.map_toArray, List.map_cons, List.map_nil]; rfl) ?_
  with_reducible refine (hcon).mono ?_
  rintro e w4 ⟨v4, rfl, hr4, hb4⟩
  refine ⟨_, rfl, ?_⟩
  obtain ⟨A4, c4, e4⟩ := Kd.S_slice hr4
  subst e4
  have hk0 := cell_keep ((below_alloc (Below.refl _ Wd) _).trans (hb4.mono (by rw [World.size_alloc]; omega))) hd0
  have hk1 := cell_keep ((below_alloc (Below.refl _ Wd) _).trans (hb4.mono (by rw [World.size_alloc]; omega))) hd1
  have hk2 := cell_keep ((below_alloc (Below.refl _ Wd) _).trans (hb4.mono (by rw [World.size_alloc]; omega))) hd2
  have hk3 := cell_keep ((below_alloc (Below.refl _ Wd) _).trans (hb4.mono (by rw [World.size_alloc]; omega))) hd3
  have hk4 := cell_keep ((below_alloc (Below.refl _ Wd) _).trans (hb4.mono (by rw [World.size_alloc]; omega))) hd4
  have hob4 := (hb4.block _ (by rw [World.size_alloc]; have := blk_lt hod; omega)).trans (blk_alloc hod _)
  have hff0 := blk_frozen hob4 0
  have hff1 := blk_frozen hob4 1
  clear hob4
  refine hK.out _ _ ⟨hk0, hk1, hk2, hk3, hk4⟩ (fun hHeld => ?_)
  clear hK K
  refine norm_ (a' := ?_) ?_ ?_
  rotate_left
  · show Act.put _ (some 13) _ = _
    simp only [Act.put, List.setIfInBounds_toArray, List.set_cons_zero, List.set_cons_succ, i64_w, i32_w]
    rfl
  refine pure_ (i := 9) (N := some 14) (v := ?_) (a' := ?_) #[true, true, true, true, true, true, true, true, true, true, false] rfl rfl (by kernel_rfl) (fun _ _ _ h => h) (Or.inl ⟨by rfl, ?_⟩) ?_ ?_
  rotate_left
  · intro w'
    go_simp
    with_reducible rfl
  rotate_left
  · simp only [Act.put, List.setIfInBounds_toArray, List.set_cons_zero, List.set_cons_succ, i64_w, i32_w]
    rfl
  refine last_ (i := 10) (N := none) #[true, true, true, true, true, true, true, true, true, true, true] rfl rfl (by kernel_rfl) (by decide) (fun K hK => ?_)
  refine skip_ (w1 := ?_) (by rfl) rfl ?_ ?_
  rotate_left
  · go_simp
    rfl
  refine hK.out _ _ ?_
  clear hK K
  refine done_ (by kernel_rfl) ?_
  go_wp2
  go_ret
  have hb5 : Below Wd.heap.size Wd w4 := (below_alloc (Below.refl _ Wd) _).trans (hb4.mono (by rw [World.size_alloc]; omega))
  have hgs := blk_lt hod
  have hob4 := (hb5.block _ hgs).trans hod
  refine ⟨true, A4, _, c4, _, rfl, blk_put (cs := #[.slice A4 (sendAll l n [⟨X0, X1, X2⟩]).1.length c4, .int .i64 n]) (blk_put (cs := #[.slice (some ⟨g, 0, none⟩) l.length cg, .int .i64 n]) hob4 0 _ rfl) 1 _ rfl, rfl, rfl, ?_, ?_⟩
  · exact ((hBd.trans (hb5.mono hBd.size)).setCell (p := ⟨w.heap.size + 1, 0, none⟩) (by show w.heap.size ≤ w.heap.size + 1; omega) _).setCell (p := ⟨w.heap.size + 1, 1, none⟩) (by show w.heap.size ≤ w.heap.size + 1; omega) _
  · exact Kd.S_far (p := ⟨w.heap.size + 1, 1, none⟩) (Kd.S_far (p := ⟨w.heap.size + 1, 0, none⟩) (Kd.S_lower (Kd.S_mono (Kd.S_bound hr4) (fun k hk => by have := hk.2.1; rw [World.size_alloc] at this; omega)) (by rw [World.size_alloc]; have := hBd.size; omega)) (fun k hk => by show k ≠ w.heap.size + 1; omega) _) (fun k hk => by show k ≠ w.heap.size + 1; omega) _
end Go.Proofs.Ytoookgkhelcngaa.G
