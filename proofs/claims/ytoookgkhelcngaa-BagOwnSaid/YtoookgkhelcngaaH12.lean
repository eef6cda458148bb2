/- Drop, Twice and Harm: a datagram is lost, sent once more, harmed. -/
import Derived.Test.YtoookgkhelcngaaH10
namespace Go.Proofs.Ytoookgkhelcngaa.G
open Go.RowKit Go.Proofs.YtoookgkhelcngaaW.PrintWords Go.Proofs.YtoookgkhelcngaaW.PrintLast Go.Proofs.YtoookgkhelcngaaW.PrintMore
open Go.Shelf
set_option linter.unusedVariables false
set_option linter.unusedSimpArgs false

def fitsB (l : List S26) : Bool := decide (l.length ≤ 1000000) && l.all (fun x => decide (x.f1.length ≤ 140737488355328))
theorem fitsB_1 {l : List S26} (h : fitsB l = true) : l.length ≤ 1000000 ∧ l.length ≤ 1000000000 ∧ l.all (fun x => decide (x.f1.length ≤ 140737488355328)) = true := by
  unfold fitsB at h
  rw [Bool.and_eq_true] at h
  have := of_decide_eq_true h.1
  exact ⟨this, by omega, h.2⟩
def bag_Drop.f (l : List S26) (n : Int) (i : Int) : Option (List S26 × Int × Int) :=
  if fitsB l = true then (if 0 ≤ i ∧ i < l.length then some (l.eraseIdx i.toNat, wrap64 (n + 1), 0) else some (l, n, 2)) else none
def bag_Twice.f (l : List S26) (n : Int) (i : Int) : Option (List S26 × Int × Int) :=
  if fitsB l = true then (if 0 ≤ i ∧ i < l.length then some ((sendAll l n [rd_T26 l i]).1, (sendAll l n [rd_T26 l i]).2, 0) else some (l, n, 2)) else none
def bag_Harm.f (l : List S26) (n : Int) (i k y : Int) : Option (List S26 × Int × Int) :=
  if fitsB l = true then (if 0 ≤ i ∧ i < l.length then (if harmOk (rd_T26 l i) k y = true then some (l.set i.toNat (harmTo (rd_T26 l i) k y), n, 0) else some (l, n, 2)) else some (l, n, 2)) else none

/-- What at answers, closure or none. -/
def AtGives (w : World) (l2 : List S26) (n2 r : Int) (e : Ending) (W' : World) : Prop := ∃ A2 m2 c2, e = .returned (.tuple #[.agg #[.slice A2 m2 c2, .int .i64 n2], .int .i64 r]) ∧ Kd.S k26 26 W' w.heap.size (fun k => w.heap.size + 1 < k) (.slice A2 m2 c2) l2 ∧ Below w.heap.size w W'

theorem at_drop (A : Option Addr) (c : Nat) (l : List S26) (n i : Int) (ib : Nat) (w : World) (l2 : List S26) (n2 r : Int) (hr : Kd.C k26 w A l.length l) (hc : l.length ≤ c) (hiw : ib < w.heap.size) (hib : w.heap[ib]? = some (.cells #[.int .i64 i] 3 (0, 0))) (hf : bag_Drop.f l n i = some (l2, n2, r)) :
    Calls Try.prog 22 #[.agg #[.slice A l.length c, .int .i64 n], .int .i64 i, .func (.func 26) #[] #[.pointer (some ⟨ib, 0, none⟩)]] w (AtGives w l2 n2 r) := by
  unfold bag_Drop.f at hf
  by_cases hx : fitsB l = true
  · rw [if_pos hx] at hf
    obtain ⟨h1, h2, h3⟩ := fitsB_1 hx
    by_cases hi : 0 ≤ i ∧ i < l.length
    · rw [if_pos hi] at hf
      obtain ⟨rfl, h4⟩ := Prod.mk.inj (Option.some.inj hf)
      obtain ⟨rfl, rfl⟩ := Prod.mk.inj h4
      refine (at_26 A c l n i ib w ⟨h2, h3⟩ hr hc hi (fun r v2 n2 W => (∃ A m c, v2 = .slice A m c) ∧ DropPost w l n i.toNat r v2 n2 W) (fun r v2 n2 W j u h => ⟨h.1, h.2.1, h.2.2.1, h.2.2.2.1.setCell (p := ⟨w.heap.size + 1, j, none⟩) (by show w.heap.size ≤ w.heap.size + 1; omega) u, Kd.S_far (p := ⟨w.heap.size + 1, j, none⟩) h.2.2.2.2 (fun k hk => by show k ≠ w.heap.size + 1; omega) u⟩) ?_).mono ?_
      · intro W g cg hB hg hob hS
        refine (drop1 w W ib g cg l n i hi h1 hiw hB hg hob hS hib).mono ?_
        rintro e W' ⟨r, A2, m2, c2, n2, he, hb, hp⟩
        exact ⟨r, A2, m2, c2, n2, he, hb, ⟨_, _, _, rfl⟩, hp⟩
      · rintro e W' ⟨r, v2, n2, rfl, ⟨A2, m2, c2, rfl⟩, rfl, rfl, hB, hS⟩
        exact ⟨A2, m2, c2, rfl, hS, hB⟩
    · rw [if_neg hi] at hf
      obtain ⟨rfl, h4⟩ := Prod.mk.inj (Option.some.inj hf)
      obtain ⟨rfl, rfl⟩ := Prod.mk.inj h4
      refine (at_none A c l n i _ w ⟨h2, h3⟩ hr hc hi).mono ?_
      rintro e W' ⟨v0, rfl, hS, hB⟩
      obtain ⟨A2, c2, rfl⟩ := Kd.S_slice hS
      exact ⟨A2, _, c2, rfl, hS, hB⟩
  · rw [if_neg hx] at hf
    cases hf
theorem at_twice (A : Option Addr) (c : Nat) (l : List S26) (n i : Int) (w : World) (l2 : List S26) (n2 r : Int) (hr : Kd.C k26 w A l.length l) (hc : l.length ≤ c) (hf : bag_Twice.f l n i = some (l2, n2, r)) :
    Calls Try.prog 22 #[.agg #[.slice A l.length c, .int .i64 n], .int .i64 i, .func (.func 27) #[] #[]] w (AtGives w l2 n2 r) := by
  unfold bag_Twice.f at hf
  by_cases hx : fitsB l = true
  · rw [if_pos hx] at hf
    obtain ⟨h1, h2, h3⟩ := fitsB_1 hx
    by_cases hi : 0 ≤ i ∧ i < l.length
    · rw [if_pos hi] at hf
      obtain ⟨rfl, h4⟩ := Prod.mk.inj (Option.some.inj hf)
      obtain ⟨rfl, rfl⟩ := Prod.mk.inj h4
      have hii : ((i.toNat : Nat) : Int) = i := Int.toNat_of_nonneg hi.1
      refine (at_27 A c l n i w ⟨h2, h3⟩ hr hc hi (fun r v2 n2 W => (∃ A m c, v2 = .slice A m c) ∧ TwicePost w l n i.toNat r v2 n2 W) (fun r v2 n2 W j u h => ⟨h.1, h.2.1, h.2.2.1, h.2.2.2.1.setCell (p := ⟨w.heap.size + 1, j, none⟩) (by show w.heap.size ≤ w.heap.size + 1; omega) u, Kd.S_far (p := ⟨w.heap.size + 1, j, none⟩) h.2.2.2.2 (fun k hk => by show k ≠ w.heap.size + 1; omega) u⟩) ?_).mono ?_
      · intro W g cg hB hg hob hS
        refine (twice1 w W g cg l n i hi ⟨h2, h3⟩ hB hg hob hS).mono ?_
        rintro e W' ⟨r, A2, m2, c2, n2, he, hb, hp⟩
        exact ⟨r, A2, m2, c2, n2, he, hb, ⟨_, _, _, rfl⟩, hp⟩
      · rintro e W' ⟨r, v2, n2, rfl, ⟨A2, m2, c2, rfl⟩, rfl, rfl, hB, hS⟩
        rw [hii] at hS ⊢
        exact ⟨A2, m2, c2, rfl, hS, hB⟩
    · rw [if_neg hi] at hf
      obtain ⟨rfl, h4⟩ := Prod.mk.inj (Option.some.inj hf)
      obtain ⟨rfl, rfl⟩ := Prod.mk.inj h4
      refine (at_none A c l n i _ w ⟨h2, h3⟩ hr hc hi).mono ?_
      rintro e W' ⟨v0, rfl, hS, hB⟩
      obtain ⟨A2, c2, rfl⟩ := Kd.S_slice hS
      exact ⟨A2, _, c2, rfl, hS, hB⟩
  · rw [if_neg hx] at hf
    cases hf
theorem at_harm (A : Option Addr) (c : Nat) (l : List S26) (n i K Y : Int) (kb yb : Nat) (w : World) (l2 : List S26) (n2 r : Int) (hr : Kd.C k26 w A l.length l) (hc : l.length ≤ c) (hkw : kb < w.heap.size) (hyw : yb < w.heap.size)
    (hkb : w.heap[kb]? = some (.cells #[.int .i64 K] 3 (0, 0))) (hyb : w.heap[yb]? = some (.cells #[.int .u8 Y] 5 (0, 0))) (hf : bag_Harm.f l n i K Y = some (l2, n2, r)) :
    Calls Try.prog 22 #[.agg #[.slice A l.length c, .int .i64 n], .int .i64 i, .func (.func 28) #[] #[.pointer (some ⟨kb, 0, none⟩), .pointer (some ⟨yb, 0, none⟩)]] w (AtGives w l2 n2 r) := by
  unfold bag_Harm.f at hf
  by_cases hx : fitsB l = true
  · rw [if_pos hx] at hf
    obtain ⟨h1, h2, h3⟩ := fitsB_1 hx
    by_cases hi : 0 ≤ i ∧ i < l.length
    · rw [if_pos hi] at hf
      have hii : ((i.toNat : Nat) : Int) = i := Int.toNat_of_nonneg hi.1
      refine (at_28 A c l n i kb yb w ⟨h2, h3⟩ hr hc hi (fun r v2 n2 W => (∃ A m c, v2 = .slice A m c) ∧ HarmPost w l n i.toNat K Y r v2 n2 W) (fun r v2 n2 W j u h => ⟨h.1, h.2.1, h.2.2.1, h.2.2.2.1.setCell (p := ⟨w.heap.size + 1, j, none⟩) (by show w.heap.size ≤ w.heap.size + 1; omega) u, Kd.S_far (p := ⟨w.heap.size + 1, j, none⟩) h.2.2.2.2 (fun k hk => by show k ≠ w.heap.size + 1; omega) u⟩) ?_).mono ?_
      · intro W g cg hB hg hob hS
        refine (harm1 w W kb yb g cg l n i K Y hi h2 hkw hyw hB hg hob hS hkb hyb).mono ?_
        rintro e W' ⟨r, A2, m2, c2, n2, he, hb, hp⟩
        exact ⟨r, A2, m2, c2, n2, he, hb, ⟨_, _, _, rfl⟩, hp⟩
      · rintro e W' ⟨r, v2, n2, rfl, ⟨A2, m2, c2, rfl⟩, hrr, rfl, hB, hS⟩
        rw [hii] at hrr hS
        by_cases hh : harmOk (rd_T26 l i) K Y = true
        · rw [if_pos hh] at hf hS
          obtain ⟨rfl, h4⟩ := Prod.mk.inj (Option.some.inj hf)
          obtain ⟨rfl, rfl⟩ := Prod.mk.inj h4
          rw [hh] at hrr
          subst hrr
          exact ⟨A2, m2, c2, rfl, hS, hB⟩
        · rw [if_neg hh] at hf hS
          obtain ⟨rfl, h4⟩ := Prod.mk.inj (Option.some.inj hf)
          obtain ⟨rfl, rfl⟩ := Prod.mk.inj h4
          rw [Bool.eq_false_iff.mpr hh] at hrr
          subst hrr
          exact ⟨A2, m2, c2, rfl, hS, hB⟩
    · rw [if_neg hi] at hf
      obtain ⟨rfl, h4⟩ := Prod.mk.inj (Option.some.inj hf)
      obtain ⟨rfl, rfl⟩ := Prod.mk.inj h4
      refine (at_none A c l n i _ w ⟨h2, h3⟩ hr hc hi).mono ?_
      rintro e W' ⟨v0, rfl, hS, hB⟩
      obtain ⟨A2, c2, rfl⟩ := Kd.S_slice hS
      exact ⟨A2, _, c2, rfl, hS, hB⟩
  · rw [if_neg hx] at hf
    cases hf
/-! walks -/
set_option maxRecDepth 100000 in
set_option maxHeartbeats 8000000 in
theorem bag_Drop.calls (A0_0 : Option Addr) (c0_0 : Nat) (l0_0 : List S26) (a0_1 : Int) (a1 : Int) (r1 : List S26) (r2 : Int) (r3 : Int) (w : World) (hr0_0 : Kd.C k26 w A0_0 l0_0.length l0_0) (hc0_0 : l0_0.length ≤ c0_0) (h : bag_Drop.f l0_0 a0_1 a1 = some (r1, r2, r3)) :
    Calls Try.prog 13 #[.agg #[.slice A0_0 l0_0.length c0_0, .int .i64 a0_1], .int .i64 a1] w fun e w' => ∃ v0_ : Value, e = .returned (.tuple #[.agg #[v0_, .int .i64 r2], .int .i64 r3]) ∧ Kd.S k26 26 w' w.heap.size (fun _ => True) v0_ r1 ∧ Below w.heap.size w w' := by
  have HR := Aside0.mk hr0_0
  have HC := Aside0.mk hc0_0
  have H := Aside0.mk h
  clear hr0_0 hc0_0 h
  obtain ⟨W3, hW3⟩ : ∃ W3, (((w.alloc (.cells #[.slice A0_0 l0_0.length c0_0, .int .i64 a0_1] 28)).alloc (.cells #[.int .i64 a1] 3)).alloc (.cells #[.slice none 0 0, .int .i64 0] 28)) = W3 := ⟨_, rfl⟩
  have hB3 : Below w.heap.size w W3 := by rw [← hW3]; exact below_alloc (below_alloc (below_alloc (Below.refl _ _) _) _) _
  have hs3 : W3.heap.size = w.heap.size + 3 := by rw [← hW3]; simp
  have hbr : W3.heap[w.heap.size + 2]? = some (.cells #[.slice none 0 0, .int .i64 0] 28 (0, 0)) := by rw [← hW3]; exact (by have h := World.alloc_heap_new (((w.alloc (.cells #[.slice A0_0 l0_0.length c0_0, .int .i64 a0_1] 28)).alloc (.cells #[.int .i64 a1] 3))) (.cells #[.slice none 0 0, .int .i64 0] 28); simpa using h)
  have hbx1 : W3.heap[w.heap.size + 1]? = some (.cells #[.int .i64 a1] 3 (0, 0)) := by rw [← hW3]; exact blk_alloc (by have h := World.alloc_heap_new ((w.alloc (.cells #[.slice A0_0 l0_0.length c0_0, .int .i64 a0_1] 28))) (.cells #[.int .i64 a1] 3); simpa using h) _
  have hs1 : w.heap.size + 1 < W3.heap.size := by omega
  have hb0 : W3.heap[w.heap.size]? = some (.cells #[.slice A0_0 l0_0.length c0_0, .int .i64 a0_1] 28 (0, 0)) := by rw [← hW3]; exact blk_alloc (blk_alloc (by have h := World.alloc_heap_new (w) (.cells #[.slice A0_0 l0_0.length c0_0, .int .i64 a0_1] 28); simpa using h) _) _
  have hc0 : W3.cell? ⟨w.heap.size, 0, none⟩ = some (.slice A0_0 l0_0.length c0_0) := (blk_cell hb0 0).trans rfl
  have hc1 : W3.cell? ⟨w.heap.size, 1, none⟩ = some (.int .i64 a0_1) := (blk_cell hb0 1).trans rfl
  have hc2 : W3.cell? ⟨w.heap.size + 1, 0, none⟩ = some (.int .i64 a1) := (blk_cell hbx1 0).trans rfl
  have hr3 := Kd.C_below HR.out hB3
  have hat := at_drop A0_0 c0_0 l0_0 a0_1 a1 (w.heap.size + 1) W3 _ _ _ hr3 HC.out hs1 hbx1 H.out
  have HAT := Aside0.mk hat
  have HB3 := Aside0.mk hB3
  have HBR := Aside0.mk hbr
  have HS3 := Aside0.mk hs3
  clear hat hB3 hbr hs3 hr3 hb0 hbx1 hs1
  go_enter Try.func13, Try.ntmps13
  go_wp2_with (go_at_call 22; refine Stop.out ?_)
  refine ⟨?_⟩
  clear hW3 hc0 hc1 hc2
  refine HAT.out.mono ?_
  rintro e w5 ⟨A2, m2, c2, rfl, hS, hB⟩
  have hs3 := HS3.out
  have hbr5 := (hB.block _ (by omega)).trans HBR.out
  have hz0 : w5.cell? ⟨w.heap.size + 2, 0, none⟩ = some (.slice none 0 0) := (blk_cell hbr5 0).trans rfl
  have hz1 : w5.cell? ⟨w.heap.size + 2, 1, none⟩ = some (.int .i64 0) := (blk_cell hbr5 1).trans rfl
  have hf0 := blk_frozen hbr5 0
  have hf1 := blk_frozen hbr5 1
  have HB5 := Aside0.mk (HB3.out.trans (hB.mono HB3.out.size))
  have HS5 := Aside0.mk hS
  have HBR5 := Aside0.mk hbr5
  clear hS hB hbr5 HAT HR
  dsimp only
  (try simp only [Nat.add_assoc, Nat.reduceAdd])
  go_wp2
  refine bodyPost_ret (results_list (rs := [.cell 4 28, .tmp 5]) rfl (by simp) (.cell (w.heap.size + 2) 28 #[.slice A2 m2 c2, .int .i64 r2] (0, 0) _ rfl (blk_put (cs := #[.slice A2 m2 c2, .int .i64 0]) (blk_put (cs := #[.slice none 0 0, .int .i64 0]) HBR5.out 0 _ rfl) 1 _ rfl) Try.underlying28 rfl (by kernel_rfl) (.tmp .nil))) rfl ?_
  refine ⟨_, rfl, ?_, (HB5.out.setCell (p := ⟨w.heap.size + 2, 0, none⟩) (by show w.heap.size ≤ w.heap.size + 2; omega) _).setCell (p := ⟨w.heap.size + 2, 1, none⟩) (by show w.heap.size ≤ w.heap.size + 2; omega) _⟩
  refine Kd.S_mono (Kd.S_far (p := ⟨w.heap.size + 2, 1, none⟩) (Kd.S_far (p := ⟨w.heap.size + 2, 0, none⟩) (Kd.S_lower HS5.out (by omega)) (fun k hk => by show k ≠ w.heap.size + 2; omega) _) (fun k hk => by show k ≠ w.heap.size + 2; omega) _) (fun _ _ => trivial)
set_option maxRecDepth 100000 in
set_option maxHeartbeats 8000000 in
theorem bag_Twice.calls (A0_0 : Option Addr) (c0_0 : Nat) (l0_0 : List S26) (a0_1 : Int) (a1 : Int) (r1 : List S26) (r2 : Int) (r3 : Int) (w : World) (hr0_0 : Kd.C k26 w A0_0 l0_0.length l0_0) (hc0_0 : l0_0.length ≤ c0_0) (h : bag_Twice.f l0_0 a0_1 a1 = some (r1, r2, r3)) :
    Calls Try.prog 14 #[.agg #[.slice A0_0 l0_0.length c0_0, .int .i64 a0_1], .int .i64 a1] w fun e w' => ∃ v0_ : Value, e = .returned (.tuple #[.agg #[v0_, .int .i64 r2], .int .i64 r3]) ∧ Kd.S k26 26 w' w.heap.size (fun _ => True) v0_ r1 ∧ Below w.heap.size w w' := by
  have HR := Aside0.mk hr0_0
  have HC := Aside0.mk hc0_0
  have H := Aside0.mk h
  clear hr0_0 hc0_0 h
  obtain ⟨W3, hW3⟩ : ∃ W3, ((w.alloc (.cells #[.slice A0_0 l0_0.length c0_0, .int .i64 a0_1] 28)).alloc (.cells #[.slice none 0 0, .int .i64 0] 28)) = W3 := ⟨_, rfl⟩
  have hB3 : Below w.heap.size w W3 := by rw [← hW3]; exact below_alloc (below_alloc (Below.refl _ _) _) _
  have hs3 : W3.heap.size = w.heap.size + 2 := by rw [← hW3]; simp
  have hbr : W3.heap[w.heap.size + 1]? = some (.cells #[.slice none 0 0, .int .i64 0] 28 (0, 0)) := by rw [← hW3]; exact (by have h := World.alloc_heap_new ((w.alloc (.cells #[.slice A0_0 l0_0.length c0_0, .int .i64 a0_1] 28))) (.cells #[.slice none 0 0, .int .i64 0] 28); simpa using h)
  have hb0 : W3.heap[w.heap.size]? = some (.cells #[.slice A0_0 l0_0.length c0_0, .int .i64 a0_1] 28 (0, 0)) := by rw [← hW3]; exact blk_alloc (by have h := World.alloc_heap_new (w) (.cells #[.slice A0_0 l0_0.length c0_0, .int .i64 a0_1] 28); simpa using h) _
  have hc0 : W3.cell? ⟨w.heap.size, 0, none⟩ = some (.slice A0_0 l0_0.length c0_0) := (blk_cell hb0 0).trans rfl
  have hc1 : W3.cell? ⟨w.heap.size, 1, none⟩ = some (.int .i64 a0_1) := (blk_cell hb0 1).trans rfl
  have hr3 := Kd.C_below HR.out hB3
  have hat := at_twice A0_0 c0_0 l0_0 a0_1 a1 W3 _ _ _ hr3 HC.out H.out
  have HAT := Aside0.mk hat
  have HB3 := Aside0.mk hB3
  have HBR := Aside0.mk hbr
  have HS3 := Aside0.mk hs3
  clear hat hB3 hbr hs3 hr3 hb0 
  go_enter Try.func14, Try.ntmps14
  go_wp2_with (go_at_call 22; refine Stop.out ?_)
  refine ⟨?_⟩
  clear hW3 hc0 hc1 
  refine HAT.out.mono ?_
  rintro e w5 ⟨A2, m2, c2, rfl, hS, hB⟩
  have hs3 := HS3.out
  have hbr5 := (hB.block _ (by omega)).trans HBR.out
  have hz0 : w5.cell? ⟨w.heap.size + 1, 0, none⟩ = some (.slice none 0 0) := (blk_cell hbr5 0).trans rfl
  have hz1 : w5.cell? ⟨w.heap.size + 1, 1, none⟩ = some (.int .i64 0) := (blk_cell hbr5 1).trans rfl
  have hf0 := blk_frozen hbr5 0
  have hf1 := blk_frozen hbr5 1
  have HB5 := Aside0.mk (HB3.out.trans (hB.mono HB3.out.size))
  have HS5 := Aside0.mk hS
  have HBR5 := Aside0.mk hbr5
  clear hS hB hbr5 HAT HR
  dsimp only
  (try simp only [Nat.add_assoc, Nat.reduceAdd])
  go_wp2
  refine bodyPost_ret (results_list (rs := [.cell 4 28, .tmp 5]) rfl (by simp) (.cell (w.heap.size + 1) 28 #[.slice A2 m2 c2, .int .i64 r2] (0, 0) _ rfl (blk_put (cs := #[.slice A2 m2 c2, .int .i64 0]) (blk_put (cs := #[.slice none 0 0, .int .i64 0]) HBR5.out 0 _ rfl) 1 _ rfl) Try.underlying28 rfl (by kernel_rfl) (.tmp .nil))) rfl ?_
  refine ⟨_, rfl, ?_, (HB5.out.setCell (p := ⟨w.heap.size + 1, 0, none⟩) (by show w.heap.size ≤ w.heap.size + 1; omega) _).setCell (p := ⟨w.heap.size + 1, 1, none⟩) (by show w.heap.size ≤ w.heap.size + 1; omega) _⟩
  refine Kd.S_mono (Kd.S_far (p := ⟨w.heap.size + 1, 1, none⟩) (Kd.S_far (p := ⟨w.heap.size + 1, 0, none⟩) (Kd.S_lower HS5.out (by omega)) (fun k hk => by show k ≠ w.heap.size + 1; omega) _) (fun k hk => by show k ≠ w.heap.size + 1; omega) _) (fun _ _ => trivial)
set_option maxRecDepth 100000 in
set_option maxHeartbeats 8000000 in
theorem bag_Harm.calls (A0_0 : Option Addr) (c0_0 : Nat) (l0_0 : List S26) (a0_1 : Int) (a1 a2 a3 : Int) (r1 : List S26) (r2 : Int) (r3 : Int) (w : World) (hr0_0 : Kd.C k26 w A0_0 l0_0.length l0_0) (hc0_0 : l0_0.length ≤ c0_0) (h : bag_Harm.f l0_0 a0_1 a1 a2 a3 = some (r1, r2, r3)) :
    Calls Try.prog 15 #[.agg #[.slice A0_0 l0_0.length c0_0, .int .i64 a0_1], .int .i64 a1, .int .i64 a2, .int .u8 a3] w fun e w' => ∃ v0_ : Value, e = .returned (.tuple #[.agg #[v0_, .int .i64 r2], .int .i64 r3]) ∧ Kd.S k26 26 w' w.heap.size (fun _ => True) v0_ r1 ∧ Below w.heap.size w w' := by
  have HR := Aside0.mk hr0_0
  have HC := Aside0.mk hc0_0
  have H := Aside0.mk h
  clear hr0_0 hc0_0 h
  obtain ⟨W3, hW3⟩ : ∃ W3, ((((w.alloc (.cells #[.slice A0_0 l0_0.length c0_0, .int .i64 a0_1] 28)).alloc (.cells #[.int .i64 a2] 3)).alloc (.cells #[.int .u8 a3] 5)).alloc (.cells #[.slice none 0 0, .int .i64 0] 28)) = W3 := ⟨_, rfl⟩
  have hB3 : Below w.heap.size w W3 := by rw [← hW3]; exact below_alloc (below_alloc (below_alloc (below_alloc (Below.refl _ _) _) _) _) _
  have hs3 : W3.heap.size = w.heap.size + 4 := by rw [← hW3]; simp
  have hbr : W3.heap[w.heap.size + 3]? = some (.cells #[.slice none 0 0, .int .i64 0] 28 (0, 0)) := by rw [← hW3]; exact (by have h := World.alloc_heap_new ((((w.alloc (.cells #[.slice A0_0 l0_0.length c0_0, .int .i64 a0_1] 28)).alloc (.cells #[.int .i64 a2] 3)).alloc (.cells #[.int .u8 a3] 5))) (.cells #[.slice none 0 0, .int .i64 0] 28); simpa using h)
  have hbx1 : W3.heap[w.heap.size + 1]? = some (.cells #[.int .i64 a2] 3 (0, 0)) := by rw [← hW3]; exact blk_alloc (blk_alloc (by have h := World.alloc_heap_new ((w.alloc (.cells #[.slice A0_0 l0_0.length c0_0, .int .i64 a0_1] 28))) (.cells #[.int .i64 a2] 3); simpa using h) _) _
  have hs1 : w.heap.size + 1 < W3.heap.size := by omega
  have hbx2 : W3.heap[w.heap.size + 2]? = some (.cells #[.int .u8 a3] 5 (0, 0)) := by rw [← hW3]; exact blk_alloc (by have h := World.alloc_heap_new (((w.alloc (.cells #[.slice A0_0 l0_0.length c0_0, .int .i64 a0_1] 28)).alloc (.cells #[.int .i64 a2] 3))) (.cells #[.int .u8 a3] 5); simpa using h) _
  have hs2 : w.heap.size + 2 < W3.heap.size := by omega
  have hb0 : W3.heap[w.heap.size]? = some (.cells #[.slice A0_0 l0_0.length c0_0, .int .i64 a0_1] 28 (0, 0)) := by rw [← hW3]; exact blk_alloc (blk_alloc (blk_alloc (by have h := World.alloc_heap_new (w) (.cells #[.slice A0_0 l0_0.length c0_0, .int .i64 a0_1] 28); simpa using h) _) _) _
  have hc0 : W3.cell? ⟨w.heap.size, 0, none⟩ = some (.slice A0_0 l0_0.length c0_0) := (blk_cell hb0 0).trans rfl
  have hc1 : W3.cell? ⟨w.heap.size, 1, none⟩ = some (.int .i64 a0_1) := (blk_cell hb0 1).trans rfl
  have hr3 := Kd.C_below HR.out hB3
  have hat := at_harm A0_0 c0_0 l0_0 a0_1 a1 a2 a3 (w.heap.size + 1) (w.heap.size + 2) W3 _ _ _ hr3 HC.out hs1 hs2 hbx1 hbx2 H.out
  have HAT := Aside0.mk hat
  have HB3 := Aside0.mk hB3
  have HBR := Aside0.mk hbr
  have HS3 := Aside0.mk hs3
  clear hat hB3 hbr hs3 hr3 hb0 hbx1 hs1 hbx2 hs2
  go_enter Try.func15, Try.ntmps15
  go_wp2_with (go_at_call 22; refine Stop.out ?_)
  refine ⟨?_⟩
  clear hW3 hc0 hc1 
  refine HAT.out.mono ?_
  rintro e w5 ⟨A2, m2, c2, rfl, hS, hB⟩
  have hs3 := HS3.out
  have hbr5 := (hB.block _ (by omega)).trans HBR.out
  have hz0 : w5.cell? ⟨w.heap.size + 3, 0, none⟩ = some (.slice none 0 0) := (blk_cell hbr5 0).trans rfl
  have hz1 : w5.cell? ⟨w.heap.size + 3, 1, none⟩ = some (.int .i64 0) := (blk_cell hbr5 1).trans rfl
  have hf0 := blk_frozen hbr5 0
  have hf1 := blk_frozen hbr5 1
  have HB5 := Aside0.mk (HB3.out.trans (hB.mono HB3.out.size))
  have HS5 := Aside0.mk hS
  have HBR5 := Aside0.mk hbr5
  clear hS hB hbr5 HAT HR
  dsimp only
  (try simp only [Nat.add_assoc, Nat.reduceAdd])
  go_wp2
  refine bodyPost_ret (results_list (rs := [.cell 8 28, .tmp 9]) rfl (by simp) (.cell (w.heap.size + 3) 28 #[.slice A2 m2 c2, .int .i64 r2] (0, 0) _ rfl (blk_put (cs := #[.slice A2 m2 c2, .int .i64 0]) (blk_put (cs := #[.slice none 0 0, .int .i64 0]) HBR5.out 0 _ rfl) 1 _ rfl) Try.underlying28 rfl (by kernel_rfl) (.tmp .nil))) rfl ?_
  refine ⟨_, rfl, ?_, (HB5.out.setCell (p := ⟨w.heap.size + 3, 0, none⟩) (by show w.heap.size ≤ w.heap.size + 3; omega) _).setCell (p := ⟨w.heap.size + 3, 1, none⟩) (by show w.heap.size ≤ w.heap.size + 3; omega) _⟩
  refine Kd.S_mono (Kd.S_far (p := ⟨w.heap.size + 3, 1, none⟩) (Kd.S_far (p := ⟨w.heap.size + 3, 0, none⟩) (Kd.S_lower HS5.out (by omega)) (fun k hk => by show k ≠ w.heap.size + 3; omega) _) (fun k hk => by show k ≠ w.heap.size + 3; omega) _) (fun _ _ => trivial)
end Go.Proofs.Ytoookgkhelcngaa.G
