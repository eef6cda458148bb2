/- Same tells whether bags are the same. -/
import Derived.Test.YtoookgkhelcngaaH0
import Derived.Test.YtoookgkhelcngaaG1
namespace Go.Proofs.Ytoookgkhelcngaa.G
open Go.RowKit Go.Proofs.YtoookgkhelcngaaW.PrintWords Go.Proofs.YtoookgkhelcngaaW.PrintLast Go.Proofs.YtoookgkhelcngaaW.PrintMore
open Go.Shelf
set_option linter.unusedVariables false
set_option linter.unusedSimpArgs false

def eqB (x y : S26) : Bool := (bag_alike.f x.f0 x.f1 x.f2 y.f0 y.f1 y.f2).getD false
theorem eqB_some (x y : S26) : bag_alike.f x.f0 x.f1 x.f2 y.f0 y.f1 y.f2 = some (eqB x y) := by
  unfold eqB bag_alike.f bytes_Equal.f
  split
  · split <;> rfl
  · rfl
def eqTo (l m : List S26) (k : Nat) : Bool := (List.range k).all fun (i : Nat) => eqB (rd_T26 l (i : Int)) (rd_T26 m (i : Int))
theorem eqTo_succ (l m : List S26) (k : Nat) : eqTo l m (k + 1) = (eqTo l m k && eqB (rd_T26 l (k : Int)) (rd_T26 m (k : Int))) := by
  unfold eqTo
  rw [List.range_succ, List.all_append]
  simp
def eqAll (l m : List S26) : Bool := decide (l.length = m.length) && eqTo l m l.length
theorem eqTo_false {l m : List S26} {k n : Nat} (h : eqTo l m k = false) (hk : k ≤ n) : eqTo l m n = false := by
  obtain ⟨d, rfl⟩ : ∃ d, n = k + d := ⟨n - k, by omega⟩
  clear hk
  induction d with
  | zero => exact h
  | succ d ih => rw [show k + (d + 1) = (k + d) + 1 by omega, eqTo_succ, ih]; rfl

set_option maxRecDepth 100000 in
set_option maxHeartbeats 8000000 in
theorem equalFunc (A1 A2 : Option Addr) (c1 c2 : Nat) (l m : List S26) (w : World) (hl : Kd.C k26 w A1 l.length l) (hm : Kd.C k26 w A2 m.length m) (hc1 : l.length ≤ c1) (hc2 : m.length ≤ c2) :
    Calls Try.prog 29 #[.slice A1 l.length c1, .slice A2 m.length c2, .func (.func 30) #[] #[]] w fun e w' => e = .returned (.bool (eqAll l m)) ∧ Below w.heap.size w w' := by
  have HB := Aside0.mk (Below.refl w.heap.size w)
  have HL := Aside0.mk hl
  have HM := Aside0.mk hm
  have hmx := hl.2.1
  clear hl hm
  by_cases hn : l.length = m.length
  · have hn1 : ((l.length : Int) == (m.length : Int)) = true := beq_iff_eq.mpr (by omega)
    have hn2 : ((l.length : Int) != (m.length : Int)) = false := bne_eq_false_iff_eq.mpr (by omega)
    have hea : eqAll l m = eqTo l m l.length := by unfold eqAll; rw [decide_eq_true hn, Bool.true_and]
    have HEA := Aside0.mk hea
    clear hea
    go_enter Try.func29, Try.ntmps29
    go_wp2
    go_loopw [17] (fun v17 wr => ∃ k : Nat, k ≤ l.length ∧ v17 = .int .i64 (k : Int) ∧ Aside0 (eqTo l m k = true) ∧ Aside0 (Below w.heap.size w wr)) (fun v17 _ => l.length - (intOf v17).toNat)
    case atStart => exact ⟨0, Nat.zero_le _, rfl, ⟨rfl⟩, HB⟩
    case round =>
      obtain ⟨k, hk, rfl, HE, HBr⟩ := hrel
      by_cases hlt : k < l.length
      · obtain ⟨ad1, B1, d1, e1, hx0, hx1, hx2, hl1, hi1⟩ := at_T26 HL.out (k : Int) (by omega) (by omega)
        subst e1
        obtain ⟨ad2, B2, d2, e2, hy0, hy1, hy2, hl2, hi2⟩ := at_T26 HM.out (k : Int) (by omega) (by omega)
        subst e2
        rw [Int.toNat_natCast] at hx0 hx1 hx2 hy0 hy1 hy2
        replace hx0 := (HBr.out.cell (World.block_lt_of_cell? w _ hx0)).trans hx0
        replace hx1 := (HBr.out.cell (World.block_lt_of_cell? w _ hx1)).trans hx1
        replace hx2 := (HBr.out.cell (World.block_lt_of_cell? w _ hx2)).trans hx2
        replace hy0 := (HBr.out.cell (World.block_lt_of_cell? w _ hy0)).trans hy0
        replace hy1 := (HBr.out.cell (World.block_lt_of_cell? w _ hy1)).trans hy1
        replace hy2 := (HBr.out.cell (World.block_lt_of_cell? w _ hy2)).trans hy2
        have HI1 := Aside0.mk hi1
        have HI2 := Aside0.mk hi2
        have HL1 := Aside0.mk hl1
        have HL2 := Aside0.mk hl2
        have HQ := Aside0.mk (eqB_some (rd_T26 l k) (rd_T26 m k))
        have HN := Aside0.mk (eqTo_succ l m k)
        obtain ⟨r, hr⟩ : ∃ r, eqB (rd_T26 l k) (rd_T26 m k) = r := ⟨_, rfl⟩
        rw [hr] at HQ HN
        clear hi1 hi2 hl1 hl2 hr
        have hk0 : (0 : Int) ≤ (k : Int) := by omega
        have hk1 : (k : Int) < (l.length : Int) := by omega
        have hk2 : (k : Int) < (m.length : Int) := by omega
        obtain ⟨X0, hX0⟩ : ∃ X, (rd_T26 l k).f0 = X := ⟨_, rfl⟩
        obtain ⟨X1, hX1⟩ : ∃ X, (rd_T26 l k).f1 = X := ⟨_, rfl⟩
        obtain ⟨X2, hX2⟩ : ∃ X, (rd_T26 l k).f2 = X := ⟨_, rfl⟩
        obtain ⟨Y0, hY0⟩ : ∃ X, (rd_T26 m k).f0 = X := ⟨_, rfl⟩
        obtain ⟨Y1, hY1⟩ : ∃ X, (rd_T26 m k).f1 = X := ⟨_, rfl⟩
        obtain ⟨Y2, hY2⟩ : ∃ X, (rd_T26 m k).f2 = X := ⟨_, rfl⟩
        rw [hX0] at hx0
        rw [hX1] at hx1 HI1 HL1
        rw [hX2] at hx2
        rw [hY0] at hy0
        rw [hY1] at hy1 HI2 HL2
        rw [hY2] at hy2
        rw [hX0, hX1, hX2, hY0, hY1, hY2] at HQ
        clear hX0 hX1 hX2 hY0 hY1 hY2
        have HY0 := Aside0.mk hy0
        have HY1 := Aside0.mk hy1
        have HY2 := Aside0.mk hy2
        clear hy0 hy1 hy2
        go_upto_region 6 with (fail)
        obtain ⟨b1, hb1⟩ : ∃ b, wr.heap.size = b := ⟨_, rfl⟩
        obtain ⟨W1, hW1⟩ : ∃ W, wr.alloc (.cells #[.int .i64 X0, .slice B1 X1.length d1, .bool X2] 26) = W := ⟨_, rfl⟩
        have hbk1 : W1.heap[b1]? = some (.cells #[.int .i64 X0, .slice B1 X1.length d1, .bool X2] 26 (0, 0)) := by rw [← hW1, ← hb1]; exact World.alloc_heap_new wr _
        have hB1 : Below wr.heap.size wr W1 := by rw [← hW1]; exact below_alloc (Below.refl _ _) _
        have hy0 := (hB1.cell (World.block_lt_of_cell? wr _ HY0.out)).trans HY0.out
        have hy1 := (hB1.cell (World.block_lt_of_cell? wr _ HY1.out)).trans HY1.out
        have hy2 := (hB1.cell (World.block_lt_of_cell? wr _ HY2.out)).trans HY2.out
        have HB1 := Aside0.mk (HBr.out.trans (hB1.mono HBr.out.size))
        have HK1 := Aside0.mk hbk1
        rw [hW1, hb1]
        clear hW1 hb1 hbk1 hB1 hx0 hx1 hx2 HY0 HY1 HY2
        go_upto_region 7 with (fail)
        obtain ⟨b2, hb2⟩ : ∃ b, W1.heap.size = b := ⟨_, rfl⟩
        obtain ⟨W2, hW2⟩ : ∃ W, W1.alloc (.cells #[.int .i64 Y0, .slice B2 Y1.length d2, .bool Y2] 26) = W := ⟨_, rfl⟩
        have hbk2 : W2.heap[b2]? = some (.cells #[.int .i64 Y0, .slice B2 Y1.length d2, .bool Y2] 26 (0, 0)) := by rw [← hW2, ← hb2]; exact World.alloc_heap_new W1 _
        have hbk1 : W2.heap[b1]? = some (.cells #[.int .i64 X0, .slice B1 X1.length d1, .bool X2] 26 (0, 0)) := by rw [← hW2]; exact blk_alloc HK1.out _
        have hB2 : Below W1.heap.size W1 W2 := by rw [← hW2]; exact below_alloc (Below.refl _ _) _
        have HB2 := Aside0.mk (HB1.out.trans (hB2.mono HB1.out.size))
        rw [hW2, hb2]
        clear hW2 hb2 hB2 hy0 hy1 hy2
        have hx0 : W2.cell? ⟨b1, 0, none⟩ = some (.int .i64 X0) := (blk_cell hbk1 0).trans rfl
        have hx1 : W2.cell? ⟨b1, 1, none⟩ = some (.slice B1 X1.length d1) := (blk_cell hbk1 1).trans rfl
        have hx2 : W2.cell? ⟨b1, 2, none⟩ = some (.bool X2) := (blk_cell hbk1 2).trans rfl
        have hy0 : W2.cell? ⟨b2, 0, none⟩ = some (.int .i64 Y0) := (blk_cell hbk2 0).trans rfl
        have hy1 : W2.cell? ⟨b2, 1, none⟩ = some (.slice B2 Y1.length d2) := (blk_cell hbk2 1).trans rfl
        have hy2 : W2.cell? ⟨b2, 2, none⟩ = some (.bool Y2) := (blk_cell hbk2 2).trans rfl
        clear hbk1 hbk2
        go_wp2_with (go_at_call 30; refine Stop.out ?_)
        refine ⟨?_⟩
        refine (bag_alike.calls X0 B1 d1 X1 X2 Y0 B2 d2 Y1 Y2 r _ (Kd.C_below HI1.out HB2.out) HL1.out (Kd.C_below HI2.out HB2.out) HL2.out HQ.out).mono ?_
        rintro e w5 ⟨rfl, hb5⟩
        have HB5 := Aside0.mk (HB2.out.trans (hb5.mono HB2.out.size))
        clear hb5 hx0 hx1 hx2 hy0 hy1 hy2
        dsimp only
        cases r with
        | true =>
          go_wp2
          go_roundw
          case rel => exact ⟨k + 1, by omega, by simp, ⟨by rw [HN.out, HE.out]; rfl⟩, HB5⟩
          case measure => simp [intOf]; omega
        | false =>
          go_wp2
          go_ret
          exact ⟨by rw [HEA.out, eqTo_false (k := k + 1) (by rw [HN.out, HE.out]; rfl) (by omega)]; rfl, HB5.out⟩
      · obtain rfl : k = l.length := by omega
        go_wp2
        go_ret
        exact ⟨by rw [HEA.out, HE.out]; rfl, HBr.out⟩
  · have hn1 : ((l.length : Int) == (m.length : Int)) = false := beq_eq_false_iff_ne.mpr (by omega)
    have hn2 : ((l.length : Int) != (m.length : Int)) = true := bne_iff_ne.mpr (by omega)
    have hea : eqAll l m = false := by unfold eqAll; rw [decide_eq_false hn, Bool.false_and]
    rw [hea]
    clear hea
    go_enter Try.func29, Try.ntmps29
    go_wp2
    go_ret
    exact ⟨rfl, HB.out⟩

def bag_Same.f (l : List S26) (n : Int) (m : List S26) (k : Int) : Option Bool := if n = k then some (eqAll l m) else some false
set_option maxRecDepth 100000 in
set_option maxHeartbeats 8000000 in
theorem bag_Same.calls (A0_0 : Option Addr) (c0_0 : Nat) (l0_0 : List S26) (a0_1 : Int) (A1_0 : Option Addr) (c1_0 : Nat) (l1_0 : List S26) (a1_1 : Int) (r : Bool) (w : World) (hr0_0 : Kd.C k26 w A0_0 l0_0.length l0_0) (hc0_0 : l0_0.length ≤ c0_0) (hr1_0 : Kd.C k26 w A1_0 l1_0.length l1_0) (hc1_0 : l1_0.length ≤ c1_0) (h : bag_Same.f l0_0 a0_1 l1_0 a1_1 = some r) :
    Calls Try.prog 20 #[.agg #[.slice A0_0 l0_0.length c0_0, .int .i64 a0_1], .agg #[.slice A1_0 l1_0.length c1_0, .int .i64 a1_1]] w fun e w' => e = .returned (.bool r) ∧ Below w.heap.size w w' := by
  have HR := Aside0.mk hr0_0
  have HR1 := Aside0.mk hr1_0
  have HC := Aside0.mk hc0_0
  have HC1 := Aside0.mk hc1_0
  clear hr0_0 hr1_0 hc0_0 hc1_0
  unfold bag_Same.f at h
  by_cases hn : a0_1 = a1_1
  · rw [if_pos hn] at h
    obtain rfl := Option.some.inj h
    clear h
    have hn1 : (a0_1 == a1_1) = true := beq_iff_eq.mpr hn
    go_enter Try.func20, Try.ntmps20
    go_wp2_with (go_at_call 29; refine Stop.out ?_)
    refine ⟨?_⟩
    refine (equalFunc A0_0 A1_0 c0_0 c1_0 l0_0 l1_0 _ (Kd.C_below HR.out (below_alloc (below_alloc (Below.refl _ _) _) _)) (Kd.C_below HR1.out (below_alloc (below_alloc (Below.refl _ _) _) _)) HC.out HC1.out).mono ?_
    rintro e w5 ⟨rfl, hb5⟩
    have HB := Aside0.mk ((below_alloc (below_alloc (Below.refl _ w) _) _).trans (hb5.mono (by simp; omega)))
    clear hb5
    dsimp only
    go_wp2
    go_ret
    exact ⟨rfl, HB.out⟩
  · rw [if_neg hn] at h
    obtain rfl := Option.some.inj h
    clear h
    have hn1 : (a0_1 == a1_1) = false := beq_eq_false_iff_ne.mpr hn
    have HB := Aside0.mk (Below.refl w.heap.size w)
    go_enter Try.func20, Try.ntmps20
    go_wp2
    go_ret
    exact ⟨rfl, below_alloc (below_alloc (Below.refl _ w) _) _⟩
end Go.Proofs.Ytoookgkhelcngaa.G
