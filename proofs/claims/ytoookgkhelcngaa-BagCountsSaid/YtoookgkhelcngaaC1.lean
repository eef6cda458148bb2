/- What BagCounts does. -/
import Derived.Test.YtoookgkhelcngaaMath
import Derived.Test.YtoookgkhelcngaaG3
import Derived.Test.YtoookgkhelcngaaOpen
import Derived.Deep.CutBlock
namespace Go.Proofs.Ytoookgkhelcngaa.G
open Go.RowKit Go.Proofs.YtoookgkhelcngaaW.PrintWords Go.Proofs.YtoookgkhelcngaaW.PrintLast Go.Proofs.YtoookgkhelcngaaW.PrintMore
open Go.Shelf
set_option linter.unusedVariables false
set_option linter.unusedSimpArgs false

/-- What stays between two deeds: the bag, and the counts. -/
structure Bag3 (w : World) (lst : List S26) (lost sent taken : Int) (k : Nat) (A : Option Addr) (c : Nat) (W : World) : Prop where
  below : Below w.heap.size w W
  box : W.heap[w.heap.size]? = some (.cells #[.slice A lst.length c, .int .i64 lost] 28 (0, 0))
  row : Kd.V k26 26 W w.heap.size (fun q => q ≠ w.heap.size) (.slice A lst.length c) lst
  sum : sent = lst.length + taken + lost
  few : lst.length ≤ 400 ∧ 0 ≤ lost ∧ 0 ≤ taken ∧ sent ≤ k
  short : ∀ x ∈ lst, x.f1.length ≤ 120

theorem Bag3.step {w : World} {lst : List S26} {lost sent taken : Int} {k : Nat} {A : Option Addr} {c : Nat} {W W' : World} (h : Bag3 w lst lost sent taken k A c W) (hb : Below W.heap.size W W') : Bag3 w lst lost sent taken k A c W' :=
  ⟨h.below.trans (hb.mono h.below.size), blk_below h.box hb, Kd.V_below h.row hb, h.sum, h.few, h.short⟩
theorem Bag3.cells {w : World} {lst : List S26} {lost sent taken : Int} {k : Nat} {A : Option Addr} {c : Nat} {W : World} (h : Bag3 w lst lost sent taken k A c W) : W.cell? ⟨w.heap.size, 0, none⟩ = some (.slice A lst.length c) ∧ W.cell? ⟨w.heap.size, 1, none⟩ = some (.int .i64 lost) :=
  ⟨(blk_cell h.box 0).trans rfl, (blk_cell h.box 1).trans rfl⟩
theorem V_lt {α : Type} {d : Kd α} {e base base' : Nat} {ok : Nat → Prop} {W : World} {v : Value} {xs : List α} (h : Kd.V d e W base ok v xs) : Kd.V d e W base' (fun k => ok k ∧ k < W.heap.size) v xs := Kd.V_map h (fun _ hf => Kd.F_bound hf)
/-- Inside a round: all that is new lies at N, or behind it. -/
structure Mid (w : World) (lst : List S26) (lost : Int) (A : Option Addr) (c : Nat) (N : Nat) (W : World) : Prop where
  below : Below w.heap.size w W
  box : W.heap[w.heap.size]? = some (.cells #[.slice A lst.length c, .int .i64 lost] 28 (0, 0))
  row : Kd.V k26 26 W w.heap.size (fun q => q ≠ w.heap.size ∧ q < N) (.slice A lst.length c) lst
  far : w.heap.size < N
theorem Bag3.mid {w : World} {lst : List S26} {lost sent taken : Int} {k : Nat} {A : Option Addr} {c : Nat} {W : World} (h : Bag3 w lst lost sent taken k A c W) : Mid w lst lost A c W.heap.size W :=
  ⟨h.below, h.box, V_lt h.row, (Array.getElem?_eq_some_iff.mp h.box).1⟩
theorem Mid.step {w : World} {lst : List S26} {lost : Int} {N : Nat} {A : Option Addr} {c : Nat} {W W' : World} (h : Mid w lst lost A c N W) (hb : Below W.heap.size W W') : Mid w lst lost A c N W' :=
  ⟨h.below.trans (hb.mono h.below.size), blk_below h.box hb, Kd.V_below h.row hb, h.far⟩
theorem Mid.put {w : World} {lst : List S26} {lost : Int} {N : Nat} {A : Option Addr} {c : Nat} {W : World} (h : Mid w lst lost A c N W) {g : Nat} (hg : N ≤ g) (j : Nat) (u : Value) : Mid w lst lost A c N (W.setCell ⟨g, j, none⟩ u) :=
  have hf := h.far
  ⟨below_set h.below (by omega), blk_far h.box (show w.heap.size ≠ g by omega) u, Kd.V_far (p := ⟨g, j, none⟩) h.row (fun k hk => by show k ≠ g; have := hk.2; omega) u, h.far⟩
theorem Mid.cells {w : World} {lst : List S26} {lost : Int} {N : Nat} {A : Option Addr} {c : Nat} {W : World} (h : Mid w lst lost A c N W) : W.cell? ⟨w.heap.size, 0, none⟩ = some (.slice A lst.length c) ∧ W.cell? ⟨w.heap.size, 1, none⟩ = some (.int .i64 lost) :=
  ⟨(blk_cell h.box 0).trans rfl, (blk_cell h.box 1).trans rfl⟩
/-- The counts between two deeds. -/
structure Sums (lst : List S26) (lost sent taken : Int) (k : Nat) : Prop where
  sum : sent = lst.length + taken + lost
  few : lst.length ≤ 400 ∧ 0 ≤ lost ∧ 0 ≤ taken ∧ sent ≤ k
  short : ∀ x ∈ lst, x.f1.length ≤ 120
theorem Bag3.sums {w : World} {lst : List S26} {lost sent taken : Int} {k : Nat} {A : Option Addr} {c : Nat} {W : World} (h : Bag3 w lst lost sent taken k A c W) : Sums lst lost sent taken k := ⟨h.sum, h.few, h.short⟩
/-- A row of one datagram. -/
theorem row1 {W : World} {g c : Nat} {A : Option Addr} {x : S26} (h : W.heap[g]? = some (.cells #[.int .i64 x.f0, .slice A x.f1.length c, .bool x.f2] 26 (0, 0))) (hc : x.f1.length ≤ c) (hC : (Kd.int .u8).C W A x.f1.length x.f1) : Kd.C k26 W (some ⟨g, 0, none⟩) ([x] : List S26).length [x] :=
  ⟨rfl, by simp, fun _ => ⟨_, rfl, fun j p hj => by
    match j, hj with
    | 0, hj =>
      obtain rfl := Option.some.inj hj
      refine ⟨_, rfl, k26_mk W x hc hC, fun i u hu => ?_⟩
      match i, hu with
      | 0, hu => obtain rfl := Option.some.inj hu; exact (blk_cell h 0).trans rfl
      | 1, hu => obtain rfl := Option.some.inj hu; exact (blk_cell h 1).trans rfl
      | 2, hu => obtain rfl := Option.some.inj hu; exact (blk_cell h 2).trans rfl⟩⟩
/-- A bag that a call made, as what is only read. -/
theorem made {W0 W : World} {v : Value} {xs : List S26} (h : Kd.S k26 26 W W0.heap.size (fun _ => True) v xs) : ∃ A c, v = .slice A xs.length c ∧ Kd.V k26 26 W W.heap.size (fun q => W0.heap.size ≤ q) (.slice A xs.length c) xs := by
  obtain ⟨A, c, rfl⟩ := Kd.S_slice h
  exact ⟨A, c, rfl, Kd.V_mono (Kd.N_V (Kd.S_N (Kd.S_bound h))) (fun k hk => hk.2.1)⟩
/-- What is behind one deed: the bag as it was, the bag that was made, and the counts. -/
structure AfterW (w : World) (lst : List S26) (lost : Int) (A : Option Addr) (c : Nat) (g10 : Nat) (lst' : List S26) (lost' : Int) (A' : Option Addr) (c' : Nat) (W : World) : Prop where
  below : Below w.heap.size w W
  box : W.heap[w.heap.size]? = some (.cells #[.slice A lst.length c, .int .i64 lost] 28 (0, 0))
  row : Kd.V k26 26 W w.heap.size (fun q => q ≠ w.heap.size) (.slice A lst.length c) lst
  box' : W.heap[g10]? = some (.cells #[.slice A' lst'.length c', .int .i64 lost'] 28 (0, 0))
  row' : Kd.V k26 26 W w.heap.size (fun q => q ≠ w.heap.size) (.slice A' lst'.length c') lst'
theorem AfterW.of {w : World} {lst : List S26} {lost : Int} {A : Option Addr} {c N g10 : Nat} {W : World} {R : List S26} {n : Int} {A' : Option Addr} {c' : Nat} (hm : Mid w lst lost A c N W) (h10 : W.heap[g10]? = some (.cells #[.slice none 0 0, .int .i64 0] 28 (0, 0))) (hN : N < g10)
    (hV : Kd.V k26 26 W W.heap.size (fun q => N ≤ q ∧ q ≠ g10) (.slice A' R.length c') R) : AfterW w lst lost A c g10 R n A' c' ((W.setCell ⟨g10, 0, none⟩ (.slice A' R.length c')).setCell ⟨g10, 1, none⟩ (.int .i64 n)) :=
  have hm' := (hm.put (Nat.le_of_lt hN) 0 (.slice A' R.length c')).put (Nat.le_of_lt hN) 1 (.int .i64 n)
  ⟨hm'.below, hm'.box, Kd.V_mono hm'.row (fun _ h => h.1), blk_put (cs := #[.slice A' R.length c', .int .i64 0]) (blk_put h10 0 _ rfl) 1 _ rfl,
    Kd.V_mono (Kd.V_far (p := ⟨g10, 1, none⟩) (Kd.V_far (p := ⟨g10, 0, none⟩) hV (fun k h => h.2) _) (fun k h => h.2) _) (fun k h => by have := hm.far; have := h.1; omega)⟩
theorem AfterW.step {w : World} {lst : List S26} {lost : Int} {A : Option Addr} {c g10 : Nat} {W W' : World} {R : List S26} {n : Int} {A' : Option Addr} {c' : Nat} (h : AfterW w lst lost A c g10 R n A' c' W) (hb : Below W.heap.size W W') : AfterW w lst lost A c g10 R n A' c' W' :=
  ⟨h.below.trans (hb.mono h.below.size), blk_below h.box hb, Kd.V_below h.row hb, blk_below h.box' hb, Kd.V_below h.row' hb⟩
structure AfterP (lst : List S26) (lost : Int) (lst' : List S26) (lost' sent' taken' e : Int) (k : Nat) : Prop where
  err : e = 0 ∨ e = 2 ∧ lst' = lst ∧ lost' = lost
  sum : sent' = lst'.length + taken' + lost'
  few : lst'.length ≤ 400 ∧ 0 ≤ lost' ∧ 0 ≤ taken' ∧ sent' ≤ (k + 1 : Nat)
  short : ∀ x ∈ lst', x.f1.length ≤ 120
theorem wrap_small (n : Int) (h0 : 0 ≤ n) (h1 : n ≤ 1000000000) : wrap64 n = n := by
  unfold wrap64
  rw [Int.emod_eq_of_lt (by omega) (by omega)]
  omega
theorem Gram_refl (a : Int) (l : List Int) (b : Bool) : garlandref08_Gram.f a l b a l b = some true := by
  unfold garlandref08_Gram.f
  rw [if_pos rfl, if_pos (by simp)]
  simp
theorem Grams_l0_refl (l : List S26) (hl : l.length ≤ 1000000) : ∀ (m i k : Nat), i + m = l.length → m < k → garlandref08_Grams.l0 k l l (i : Int) = some true
  | 0, i, k + 1, hi, _ => by
    simp only [garlandref08_Grams.l0]
    rw [if_neg (by omega)]
  | m + 1, i, k + 1, hi, hk => by
    simp only [garlandref08_Grams.l0]
    rw [if_pos (by omega), if_pos (by omega), if_pos (by omega), Gram_refl]
    simp only [Option.bind_some, if_true]
    rw [wrap_small _ (by omega) (by omega)]
    exact Grams_l0_refl l hl m (i + 1) k (by omega) (by omega)
  | _, _, 0, _, h => absurd h (by omega)
theorem Grams_refl (l : List S26) (hl : l.length ≤ 1000000) (k : Nat) (hk : l.length < k) : garlandref08_Grams.f k l l = some true := by
  unfold garlandref08_Grams.f
  rw [if_pos rfl]
  exact Grams_l0_refl l hl l.length 0 k (by omega) hk
theorem Same_refl (l : List S26) (n : Int) (hl : l.length ≤ 400) : garlandref08_Same.f 500 l n l n = some true := by
  unfold garlandref08_Same.f
  rw [if_pos rfl, Grams_refl l (by omega) 500 (by omega)]
  rfl
theorem AfterW.next {w : World} {lst : List S26} {lost : Int} {A : Option Addr} {c g10 : Nat} {R : List S26} {n : Int} {A' : Option Addr} {c' : Nat} {W : World} {sent taken e : Int} {k : Nat} (h : AfterW w lst lost A c g10 R n A' c' W) (hp : AfterP lst lost R n sent taken e k) :
    Bag3 w R n sent taken (k + 1) A' c' ((W.setCell ⟨w.heap.size, 0, none⟩ (.slice A' R.length c')).setCell ⟨w.heap.size, 1, none⟩ (.int .i64 n)) :=
  ⟨below_set (below_set h.below (Nat.le_refl _)) (Nat.le_refl _), blk_put (cs := #[.slice A' R.length c', .int .i64 lost]) (blk_put h.box 0 _ rfl) 1 _ rfl,
    Kd.V_far (p := ⟨w.heap.size, 1, none⟩) (Kd.V_far (p := ⟨w.heap.size, 0, none⟩) h.row' (fun k h => h) _) (fun k h => h) _, hp.sum, hp.few, hp.short⟩
theorem wrap_mid (n : Int) (h0 : -1000000000 ≤ n) (h1 : n ≤ 1000000000) : wrap64 n = n := by
  unfold wrap64
  rw [Int.emod_eq_of_lt (by omega) (by omega)]
  omega
theorem Sums.fits {lst : List S26} {lost sent taken : Int} {k : Nat} (h : Sums lst lost sent taken k) : fitsB lst = true := by
  unfold fitsB
  simp only [Bool.and_eq_true, decide_eq_true_eq, List.all_eq_true]
  exact ⟨by have := h.few.1; omega, fun x hx => by have := h.short x hx; omega⟩
theorem send1 {lst : List S26} {lost sent taken : Int} {k : Nat} (h : Sums lst lost sent taken k) (hk : k < 1000) (g : S26) : AfterP lst lost (sendAll lst lost [g]).1 (sendAll lst lost [g]).2 (sent + 1) taken 0 k := by
  obtain ⟨h1, ⟨h2, h3, h4, h5⟩, h6⟩ := h
  show AfterP lst lost (sendOne (lst, lost) g).1 (sendOne (lst, lost) g).2 (sent + 1) taken 0 k
  unfold sendOne
  dsimp only
  by_cases hc : lst.length < 400 ∧ g.f1.length ≤ 120
  · rw [if_pos hc]
    exact ⟨Or.inl rfl, by simp; omega, by simp; omega, by
      intro x hx
      rcases List.mem_append.1 hx with hx | hx
      · exact h6 x hx
      · rw [List.mem_singleton.1 hx]; exact hc.2⟩
  · rw [if_neg hc, wrap_mid _ (by omega) (by omega)]
    exact ⟨Or.inl rfl, by dsimp only; omega, by dsimp only; omega, h6⟩
theorem Send_some {lst : List S26} {lost sent taken : Int} {k : Nat} (h : Sums lst lost sent taken k) (g : S26) (hg : g.f1.length ≤ 300) : bag_Send.f lst lost [g] = some ((sendAll lst lost [g]).1, (sendAll lst lost [g]).2) := by
  unfold bag_Send.f
  obtain ⟨_, ⟨h2, _⟩, h6⟩ := h
  rw [if_pos ⟨⟨by omega, by simp only [List.all_eq_true, decide_eq_true_eq]; exact fun x hx => by have := h6 x hx; omega⟩, by simp, by simp; omega⟩]
theorem take_some {lst : List S26} {lost sent taken : Int} {k : Nat} (h : Sums lst lost sent taken k) (hk : k < 1000) (i : Int) : ∃ r1 r3 r4 r5, bag_Take.f lst lost i = some (r1, lost, r3, r4, r5, decide (0 ≤ i ∧ i < lst.length)) ∧ AfterP lst lost r1 lost sent (if decide (0 ≤ i ∧ i < lst.length) = true then taken + 1 else taken) 0 k ∧ (0 ≤ i ∧ i < lst.length → r3 = (rd_T26 lst i).f0 ∧ r4 = (rd_T26 lst i).f1 ∧ r5 = (rd_T26 lst i).f2) := by
  have hf := h.fits
  obtain ⟨h1, ⟨h2, h3, h4, h5⟩, h6⟩ := h
  unfold bag_Take.f
  rw [if_pos hf]
  by_cases hi : 0 ≤ i ∧ i < lst.length
  · rw [if_pos hi, decide_eq_true hi, if_pos rfl]
    have hl : (lst.eraseIdx i.toNat).length + 1 = lst.length := by rw [List.length_eraseIdx_of_lt (by omega)]; omega
    exact ⟨_, _, _, _, rfl, ⟨Or.inl rfl, by omega, by omega, fun x hx => h6 x (List.mem_of_mem_eraseIdx hx)⟩, fun _ => ⟨rfl, rfl, rfl⟩⟩
  · rw [if_neg hi, decide_eq_false hi, if_neg (by decide)]
    exact ⟨_, _, _, _, rfl, ⟨Or.inl rfl, by omega, by omega, h6⟩, fun h => absurd h hi⟩
theorem drop_some {lst : List S26} {lost sent taken : Int} {k : Nat} (h : Sums lst lost sent taken k) (hk : k < 1000) (i : Int) : ∃ r1 r2 r3, bag_Drop.f lst lost i = some (r1, r2, r3) ∧ AfterP lst lost r1 r2 sent taken r3 k := by
  have hf := h.fits
  obtain ⟨h1, ⟨h2, h3, h4, h5⟩, h6⟩ := h
  unfold bag_Drop.f
  rw [if_pos hf]
  by_cases hi : 0 ≤ i ∧ i < lst.length
  · rw [if_pos hi, wrap_mid _ (by omega) (by omega)]
    have hl : (lst.eraseIdx i.toNat).length + 1 = lst.length := by rw [List.length_eraseIdx_of_lt (by omega)]; omega
    exact ⟨_, _, _, rfl, Or.inl rfl, by omega, by omega, fun x hx => h6 x (List.mem_of_mem_eraseIdx hx)⟩
  · rw [if_neg hi]
    exact ⟨_, _, _, rfl, Or.inr ⟨rfl, rfl, rfl⟩, by omega, by omega, h6⟩
theorem twice_some {lst : List S26} {lost sent taken : Int} {k : Nat} (h : Sums lst lost sent taken k) (hk : k < 1000) (i : Int) : ∃ r1 r2 r3, bag_Twice.f lst lost i = some (r1, r2, r3) ∧ AfterP lst lost r1 r2 (if decide (0 ≤ i ∧ i < lst.length) = true then sent + 1 else sent) taken r3 k := by
  have hf := h.fits
  have hs := send1 h hk (rd_T26 lst i)
  obtain ⟨h1, ⟨h2, h3, h4, h5⟩, h6⟩ := h
  unfold bag_Twice.f
  rw [if_pos hf]
  by_cases hi : 0 ≤ i ∧ i < lst.length
  · rw [if_pos hi, decide_eq_true hi, if_pos rfl]
    exact ⟨_, _, _, rfl, hs⟩
  · rw [if_neg hi, decide_eq_false hi, if_neg (by decide)]
    exact ⟨_, _, _, rfl, Or.inr ⟨rfl, rfl, rfl⟩, by omega, by omega, h6⟩
theorem harm_some {lst : List S26} {lost sent taken : Int} {k : Nat} (h : Sums lst lost sent taken k) (hk : k < 1000) (i j y : Int) : ∃ r1 r2 r3, bag_Harm.f lst lost i j y = some (r1, r2, r3) ∧ AfterP lst lost r1 r2 sent taken r3 k ∧ (r3 = 0 → garlandlaw08_harmed.f lst r1 i = some true) := by
  have hf := h.fits
  obtain ⟨h1, ⟨h2, h3, h4, h5⟩, h6⟩ := h
  unfold bag_Harm.f
  rw [if_pos hf]
  by_cases hi : 0 ≤ i ∧ i < lst.length
  · rw [if_pos hi]
    by_cases ho : harmOk (rd_T26 lst i) j y = true
    · rw [if_pos ho]
      refine ⟨_, _, _, rfl, ⟨Or.inl rfl, by rw [List.length_set]; omega, by rw [List.length_set]; omega, fun x hx => ?_⟩, fun _ => ?_⟩
      · rcases List.mem_or_eq_of_mem_set hx with hx | rfl
        · exact h6 x hx
        · have hm : (rd_T26 lst i) ∈ lst := by
            unfold rd_T26
            rw [List.getD_eq_getElem?_getD, List.getElem?_eq_getElem (by omega)]
            exact List.getElem_mem _
          have := h6 _ hm
          simp only [harmTo, List.length_set]
          omega
      · have hr : rd_T26 (lst.set i.toNat (harmTo (rd_T26 lst i) j y)) i = harmTo (rd_T26 lst i) j y := by
          show (lst.set i.toNat (harmTo (rd_T26 lst i) j y)).getD i.toNat z26 = _
          rw [List.getD_eq_getElem?_getD, List.getElem?_set_self (by omega)]
          rfl
        have hn : (rd_T26 lst i).f2 = false := by
          unfold harmOk at ho
          simp only [Bool.and_eq_true, Bool.not_eq_true'] at ho
          exact ho.1.2
        unfold garlandlaw08_harmed.f
        rw [List.length_set, if_neg (by omega), if_neg (by omega), if_neg (by omega), if_pos rfl, if_pos hi.1, if_pos hi.2, hn, if_neg (by decide), if_pos hi.2, hr, if_pos (show (harmTo (rd_T26 lst i) j y).f2 = true from rfl)]
        unfold garlandref08_Gram.f
        by_cases h0 : (rd_T26 lst i).f0 = (harmTo (rd_T26 lst i) j y).f0
        · rw [if_pos h0, if_neg (show ¬ ((false == (harmTo (rd_T26 lst i) j y).f2) = true) from Bool.false_ne_true)]; rfl
        · rw [if_neg h0]; rfl
    · rw [if_neg ho]
      exact ⟨_, _, _, rfl, ⟨Or.inr ⟨rfl, rfl, rfl⟩, by omega, by omega, h6⟩, fun h => absurd h (by decide)⟩
  · rw [if_neg hi]
    exact ⟨_, _, _, rfl, ⟨Or.inr ⟨rfl, rfl, rfl⟩, by omega, by omega, h6⟩, fun h => absurd h (by decide)⟩
set_option maxRecDepth 100000 in
set_option maxHeartbeats 8000000 in
theorem BagCounts_any (A0 : Option Addr) (c0 : Nat) (l : List S46) (w : World) (hr0 : Kd.C k46 w A0 l.length l) (hc0 : l.length ≤ c0) :
    Calls Try.prog 5 #[.slice A0 l.length c0] w fun e w' => e = .returned (.bool true) ∧ Below w.heap.size w w' := by
  have hu28 := Try.underlying28
  have hu26 := Try.underlying26
  have hu46 := Try.underlying46
  have HR := Aside0.mk hr0
  have HC := Aside0.mk hc0
  clear hr0 hc0
  by_cases h60 : l.length > 60
  · have h1 : decide ((l.length : Int) > 60) = true := decide_eq_true (by omega)
    have h2 : decide ((60 : Int) < l.length) = true := decide_eq_true (by omega)
    have h3 : decide (60 < l.length) = true := decide_eq_true (by omega)
    go_enter Try.func5, Try.ntmps5
    go_wp2_with (go_at_call 6; refine Stop.out ?_)
    refine ⟨?_⟩
    refine (wakes_calls _).mono ?_
    rintro e w1 ⟨rfl, hb⟩
    dsimp only
    have HB := Aside0.mk hb
    clear hb
    go_wp2
    go_ret
    exact ⟨rfl, HB.out⟩
  · have h1 : decide ((l.length : Int) > 60) = false := decide_eq_false (by omega)
    have h2 : decide ((60 : Int) < l.length) = false := decide_eq_false (by omega)
    have h3 : decide (60 < l.length) = false := decide_eq_false (by omega)
    go_enter Try.func5, Try.ntmps5
    go_wp2
    go_loopg [4, 5, 6] l.length (fun kq v4 v5 v6 wr => ∃ (k : Nat) (lst : List S26) (lost sent taken : Int) (A : Option Addr) (c : Nat), v4 = .int .i64 sent ∧ v5 = .int .i64 taken ∧ v6 = .int .i64 (k : Int) ∧ k + kq = l.length ∧ Aside0 (Bag3 w lst lost sent taken k A c wr))
    case atStart => exact ⟨0, [], 0, 0, 0, none, 0, rfl, rfl, rfl, by omega, ⟨below_alloc (Below.refl _ _) _, World.alloc_heap_new w _, Kd.V_mk (Nat.le_refl _) (Kd.F_nil _ _ _), by simp, by simp, by simp⟩⟩
    case round =>
      obtain ⟨k, lst, lost, sent, taken, A, c, rfl, rfl, rfl, hk, HI⟩ := hrel
      by_cases hlt : k < l.length
      · obtain ⟨ad, A5, c5, e1, hx0, hx1, hx2, hx3, hx4, hx5, hx6, hl5, hi5⟩ := at_T46 HR.out (k : Int) (by omega) (by omega)
        subst e1
        rw [Int.toNat_natCast] at hx0 hx1 hx2 hx3 hx4 hx5 hx6
        replace hx0 := (HI.out.below.cell (World.block_lt_of_cell? w _ hx0)).trans hx0
        replace hx1 := (HI.out.below.cell (World.block_lt_of_cell? w _ hx1)).trans hx1
        replace hx2 := (HI.out.below.cell (World.block_lt_of_cell? w _ hx2)).trans hx2
        replace hx3 := (HI.out.below.cell (World.block_lt_of_cell? w _ hx3)).trans hx3
        replace hx4 := (HI.out.below.cell (World.block_lt_of_cell? w _ hx4)).trans hx4
        replace hx5 := (HI.out.below.cell (World.block_lt_of_cell? w _ hx5)).trans hx5
        replace hx6 := (HI.out.below.cell (World.block_lt_of_cell? w _ hx6)).trans hx6
        have HL5 := Aside0.mk hl5
        have HI5 := Aside0.mk hi5
        clear hl5 hi5
        obtain ⟨D, hD⟩ : ∃ D, rd_T46 l (k : Int) = D := ⟨_, rfl⟩
        rw [hD] at hx0 hx1 hx2 hx3 hx4 hx5 hx6 HL5 HI5
        clear hD
        obtain ⟨D0, D1, D2, D3, G0, G1, G2⟩ := D
        dsimp only at hx0 hx1 hx2 hx3 hx4 hx5 hx6 HL5 HI5
        have hk0 : (0 : Int) ≤ (k : Int) := by omega
        have hk1 : (k : Int) < (l.length : Int) := by omega
        have hd1 : decide ((k : Int) < (l.length : Int)) = true := decide_eq_true (by omega)
        have hd2 : decide (k < l.length) = true := decide_eq_true (by omega)
        go_upto_region 9 with (fail)
        obtain ⟨g7, hg7⟩ : ∃ b, wr.heap.size = b := ⟨_, rfl⟩
        obtain ⟨W1, hW1⟩ : ∃ W, wr.alloc (.cells #[.int .i64 D0, .int .i64 D1, .int .i64 D2, .int .u8 D3, .int .i64 G0, .slice A5 G1.length c5, .bool G2] 46) = W := ⟨_, rfl⟩
        have hb1 : Below wr.heap.size wr W1 := by rw [← hW1]; exact below_alloc (Below.refl _ _) _
        have HK7 := Aside0.mk (show W1.heap[g7]? = some (.cells #[.int .i64 D0, .int .i64 D1, .int .i64 D2, .int .u8 D3, .int .i64 G0, .slice A5 G1.length c5, .bool G2] 46 (0, 0)) by rw [← hW1, ← hg7]; exact World.alloc_heap_new wr _)
        have HSU := Aside0.mk HI.out.sums
        have HI1 := Aside0.mk (show Mid w lst lost A c g7 W1 by rw [← hg7]; exact HI.out.mid.step hb1)
        have HN7 := Aside0.mk (show w.heap.size < g7 from HI1.out.far)
        rw [hW1, hg7]
        clear hW1 hg7 hb1 HI hx0 hx1 hx2 hx3 hx4 hx5 hx6
        obtain ⟨hq0, hq1⟩ := HI1.out.cells
        have hx0 : W1.cell? ⟨g7, 0, none⟩ = some (.int .i64 D0) := (blk_cell HK7.out 0).trans rfl
        have hx1 : W1.cell? ⟨g7, 1, none⟩ = some (.int .i64 D1) := (blk_cell HK7.out 1).trans rfl
        have hx5 : W1.cell? ⟨g7, 5, none⟩ = some (.slice A5 G1.length c5) := (blk_cell HK7.out 5).trans rfl
        by_cases h300 : G1.length > 300
        · have j1 : decide ((G1.length : Int) > 300) = true := decide_eq_true (by omega)
          have j2 : decide ((300 : Int) < G1.length) = true := decide_eq_true (by omega)
          have j3 : decide (300 < G1.length) = true := decide_eq_true (by omega)
          go_wp2_with (go_at_call 6; refine Stop.out ?_)
          refine ⟨?_⟩
          refine (wakes_calls _).mono ?_
          rintro e w1 ⟨rfl, hb⟩
          dsimp only
          have HB := Aside0.mk (HI1.out.step hb).below
          clear hb
          go_wp2
          go_ret
          exact ⟨rfl, HB.out⟩
        have j1 : decide ((G1.length : Int) > 300) = false := decide_eq_false (by omega)
        have j2 : decide ((300 : Int) < G1.length) = false := decide_eq_false (by omega)
        have j3 : decide (300 < G1.length) = false := decide_eq_false (by omega)
        go_upto_region 12 with (fail)
        obtain ⟨b, hb⟩ : ∃ b, decide (0 ≤ D1 ∧ D1 < (lst.length : Int)) = b := ⟨_, rfl⟩
        go_cut [9] (fun v9 wc => v9 = .bool b ∧ wc = W1)
        case first =>
          by_cases hn0 : D1 < 0
          · have i1 : decide (D1 ≥ 0) = false := decide_eq_false (by omega)
            have i2 : decide (0 ≤ D1) = false := decide_eq_false (by omega)
            obtain rfl : b = false := by rw [← hb]; exact decide_eq_false (by omega)
            go_wp2
            go_meet
            case rel => exact ⟨rfl, rfl⟩
          · have i1 : decide (D1 ≥ 0) = true := decide_eq_true (by omega)
            have i2 : decide (0 ≤ D1) = true := decide_eq_true (by omega)
            have i3 : decide (D1 < (lst.length : Int)) = b := by rw [← hb]; exact decide_eq_decide.mpr (by omega)
            go_wp2
            go_meet
            case rel => exact ⟨rfl, rfl⟩
        case rest =>
          obtain ⟨rfl, hwc⟩ := hcut
          rw [hwc]
          clear hwc wc
          go_upto_region 15 with (fail)
          obtain ⟨g10, hg10⟩ : ∃ b, W1.heap.size = b := ⟨_, rfl⟩
          obtain ⟨W2, hW2⟩ : ∃ W, W1.alloc (.cells #[.slice none 0 0, .int .i64 0] 28) = W := ⟨_, rfl⟩
          have hb1 : Below W1.heap.size W1 W2 := by rw [← hW2]; exact below_alloc (Below.refl _ _) _
          have HK10 := Aside0.mk (show W2.heap[g10]? = some (.cells #[.slice none 0 0, .int .i64 0] 28 (0, 0)) by rw [← hW2, ← hg10]; exact World.alloc_heap_new W1 _)
          have HK7 := Aside0.mk (blk_below HK7.out hb1)
          have HI2 := Aside0.mk (HI1.out.step hb1)
          have HN10 := Aside0.mk (show g7 < g10 by rw [← hg10]; exact (Array.getElem?_eq_some_iff.mp (by assumption : Aside0 (W1.heap[g7]? = _)).out).1)
          rw [hW2, hg10]
          clear hW2 hg10 hb1 HI1 hx0 hx1 hx5 hq0 hq1
          obtain ⟨hq0, hq1⟩ := HI2.out.cells
          have hx0 : W2.cell? ⟨g7, 0, none⟩ = some (.int .i64 D0) := (blk_cell HK7.out 0).trans rfl
          go_upto_block 2 with (fail)
          go_cut [4, 5, 11] (fun v4 v5 v11 wc => ∃ (lst' : List S26) (lost' sent' taken' e : Int) (A' : Option Addr) (c' : Nat), v4 = .int .i64 sent' ∧ v5 = .int .i64 taken' ∧ v11 = .int .i64 e ∧ Aside0 (AfterW w lst lost A c g10 lst' lost' A' c' wc) ∧ Aside0 (AfterP lst lost lst' lost' sent' taken' e k))
          case first =>
            by_cases d0 : D0 = 0
            · have s0 : (D0 == 0) = true := beq_iff_eq.mpr d0
              clear d0
              have hf6 := blk_frozen HK7.out 6
              have hx6 : W2.cell? ⟨g7, 6, none⟩ = some (.bool G2) := (blk_cell HK7.out 6).trans rfl
              go_upto_region 21 with (fail)
              obtain ⟨W3, hW3⟩ : ∃ W, W2.setCell ⟨g7, 6, none⟩ (.bool false) = W := ⟨_, rfl⟩
              have HK71 := Aside0.mk (show W3.heap[g7]? = some (.cells #[.int .i64 D0, .int .i64 D1, .int .i64 D2, .int .u8 D3, .int .i64 G0, .slice A5 G1.length c5, .bool false] 46 (0, 0)) by rw [← hW3]; exact blk_put HK7.out 6 _ rfl)
              have HI3 := Aside0.mk (show Mid w lst lost A c g7 W3 by rw [← hW3]; exact HI2.out.put (Nat.le_refl _) _ _)
              have HK101 := Aside0.mk (show W3.heap[g10]? = some (.cells #[.slice none 0 0, .int .i64 0] 28 (0, 0)) by rw [← hW3]; exact blk_far HK10.out (show g10 ≠ g7 by have := HN10.out; omega) _)
              rw [hW3]
              clear hW3 hf6 hx6 hx0 hq0 hq1 HK7 HK10 HI2
              obtain ⟨hq0, hq1⟩ := HI3.out.cells
              have hx4 : W3.cell? ⟨g7, 4, none⟩ = some (.int .i64 G0) := (blk_cell HK71.out 4).trans rfl
              have hx5 : W3.cell? ⟨g7, 5, none⟩ = some (.slice A5 G1.length c5) := (blk_cell HK71.out 5).trans rfl
              have hx6 : W3.cell? ⟨g7, 6, none⟩ = some (.bool false) := (blk_cell HK71.out 6).trans rfl
              go_wp2_with (go_at_call 7; refine Stop.out ?_)
              obtain ⟨gr, hgr⟩ : ∃ b, W3.heap.size = b := ⟨_, rfl⟩
              obtain ⟨W4, hW4⟩ : ∃ W, W3.alloc (.cells #[.int .i64 G0, .slice A5 G1.length c5, .bool false] 26) = W := ⟨_, rfl⟩
              have hb4 : Below W3.heap.size W3 W4 := by rw [← hW4]; exact below_alloc (Below.refl _ _) _
              have HKr := Aside0.mk (show W4.heap[gr]? = some (.cells #[.int .i64 G0, .slice A5 G1.length c5, .bool false] 26 (0, 0)) by rw [← hW4, ← hgr]; exact World.alloc_heap_new W3 _)
              have HK102 := Aside0.mk (blk_below HK101.out hb4)
              have HI4 := Aside0.mk (HI3.out.step hb4)
              rw [hW4, hgr]
              clear hW4 hgr hb4 hq0 hq1 hx4 hx5 hx6 HK71 HK101 HI3
              refine ⟨?_⟩
              refine (bag_Send.calls A c lst lost (some ⟨gr, 0, none⟩) 1 [⟨G0, G1, false⟩] _ _ _ (Kd.V_reads' HI4.out.row).2.2 (Kd.V_reads' HI4.out.row).2.1 (row1 (x := ⟨G0, G1, false⟩) HKr.out HL5.out (Kd.C_below HI5.out HI4.out.below)) (Nat.le_refl _) (Send_some HSU.out ⟨G0, G1, false⟩ (by dsimp only; omega))).mono ?_
              rintro e w5 ⟨v0, rfl, hS, hb5⟩
              dsimp only
              have HP := Aside0.mk (send1 HSU.out (by omega) ⟨G0, G1, false⟩)
              obtain ⟨R1, hR1⟩ : ∃ x, (sendAll lst lost [(⟨G0, G1, false⟩ : S26)]).1 = x := ⟨_, rfl⟩
              obtain ⟨R2, hR2⟩ : ∃ x, (sendAll lst lost [(⟨G0, G1, false⟩ : S26)]).2 = x := ⟨_, rfl⟩
              rw [hR1] at hS HP
              rw [hR2] at HP
              rw [hR2]
              clear hR1 hR2
              obtain ⟨A', c', rfl, hV⟩ := made hS
              have HVR := Aside0.mk (Kd.V_mono (ok' := fun q => g7 ≤ q ∧ q ≠ g10) hV (fun q hq => by have h1 := (Array.getElem?_eq_some_iff.mp HK102.out).1; have h2 := HN10.out; omega))
              have HI5' := Aside0.mk (HI4.out.step hb5)
              have HK103 := Aside0.mk (blk_below HK102.out hb5)
              clear hS hV hb5 HKr HK102 HI4
              have hz0 : w5.cell? ⟨g10, 0, none⟩ = some (.slice none 0 0) := (blk_cell HK103.out 0).trans rfl
              have hz1 : w5.cell? ⟨g10, 1, none⟩ = some (.int .i64 0) := (blk_cell HK103.out 1).trans rfl
              have hf0 := blk_frozen HK103.out 0
              have hf1 := blk_frozen HK103.out 1
              go_wp2
              go_meet
              case rel => exact ⟨R1, R2, sent + 1, taken, 0, A', c', by have h1 := HP.out.few; have h2 := HP.out.sum; rw [wrap_mid _ (by omega) (by omega)], rfl, rfl, ⟨AfterW.of HI5'.out HK103.out HN10.out HVR.out⟩, HP⟩
            · have s0 : (D0 == 0) = false := beq_eq_false_iff_ne.mpr d0
              have hx1 : W2.cell? ⟨g7, 1, none⟩ = some (.int .i64 D1) := (blk_cell HK7.out 1).trans rfl
              by_cases d1 : D0 = 1
              · have s1 : (D0 == 1) = true := beq_iff_eq.mpr d1
                clear d1
                go_upto_region 25 with (go_at_call 9; refine Stop.out ?_)
                refine ⟨?_⟩
                obtain ⟨R1, X0, X1, X2, hf, hP, hX⟩ := take_some HSU.out (by omega) D1
                rw [hb] at hP hf
                have HP := Aside0.mk hP
                have HX := Aside0.mk hX
                refine (bag_Take.calls A c lst lost D1 R1 lost X0 X1 X2 b _ (Kd.V_reads' HI2.out.row).2.2 (Kd.V_reads' HI2.out.row).2.1 hf).mono ?_
                clear hf hP hX
                rintro e w5 ⟨v0, v3, rfl, hS, hR3, hb5⟩
                dsimp only
                obtain ⟨A3, c3, rfl⟩ := Kd.R_slice hR3
                obtain ⟨A', c', rfl, hV⟩ := made (Kd.S_mono hS (fun _ _ => trivial))
                have HVR := Aside0.mk (Kd.V_mono (ok' := fun q => g7 ≤ q ∧ q ≠ g10) hV (fun q hq => by have h1 := (Array.getElem?_eq_some_iff.mp HK10.out).1; have h2 := HN10.out; omega))
                have HR3 := Aside0.mk (Kd.R_reads' hR3).2
                have HI5' := Aside0.mk (HI2.out.step hb5)
                have HK103 := Aside0.mk (blk_below HK10.out hb5)
                have HK73 := Aside0.mk (blk_below HK7.out hb5)
                clear hS hV hb5 hR3 hx0 hx1 hq0 hq1
                go_upto_region 25 with (fail)
                obtain ⟨W6, hW6⟩ : ∃ W, (w5.alloc (.cells #[.slice A' R1.length c', .int .i64 lost] 28)).alloc (.cells #[.int .i64 X0, .slice A3 X1.length c3, .bool X2] 26) = W := ⟨_, rfl⟩
                have hb6 : Below w5.heap.size w5 W6 := by rw [← hW6]; exact below_alloc (below_alloc (Below.refl _ _) _) _
                have HK12 := Aside0.mk (show W6.heap[w5.heap.size]? = some (.cells #[.slice A' R1.length c', .int .i64 lost] 28 (0, 0)) by rw [← hW6]; exact blk_alloc (World.alloc_heap_new w5 _) _)
                have HK13 := Aside0.mk (show W6.heap[w5.heap.size + 1]? = some (.cells #[.int .i64 X0, .slice A3 X1.length c3, .bool X2] 26 (0, 0)) by rw [← hW6]; exact (by have h := World.alloc_heap_new (w5.alloc (.cells #[.slice A' R1.length c', .int .i64 lost] 28)) (.cells #[.int .i64 X0, .slice A3 X1.length c3, .bool X2] 26); simpa using h))
                have HI6 := Aside0.mk (HI5'.out.step hb6)
                have HK106 := Aside0.mk (blk_below HK103.out hb6)
                have HK76 := Aside0.mk (blk_below HK73.out hb6)
                have HV6 := Aside0.mk (Kd.V_below HVR.out hb6)
                have HC3 := Aside0.mk (Kd.C_below HR3.out.2 hb6)
                rw [hW6]
                clear hW6 hb6 HI5' HK103 HK73 HVR
                cases b with
                | true =>
                  have hI := of_decide_eq_true hb
                  clear hb
                  obtain ⟨ad1, A9, c9, eA, hy0, hy1, hy2, hl9, hi9⟩ := at_T26 (Kd.V_reads' HI6.out.row).2.2 D1 hI.1 hI.2
                  obtain ⟨e0, e1, e2⟩ := HX.out hI
                  obtain ⟨⟨E0, E1, E2⟩, hE⟩ : ∃ E, rd_T26 lst D1 = E := ⟨_, rfl⟩
                  rw [hE] at hy0 hy1 hy2 hl9 hi9 e0 e1 e2
                  dsimp only at hy0 hy1 hy2 hl9 hi9 e0 e1 e2
                  replace e0 := e0.symm
                  subst e0
                  replace e1 := e1.symm
                  subst e1
                  replace e2 := e2.symm
                  subst e2
                  subst eA
                  have HL9 := Aside0.mk hl9
                  have HI9 := Aside0.mk hi9
                  have hI0 := eq_true hI.1
                  have hI1 := eq_true hI.2
                  clear hl9 hi9 hI hE HX
                  have hx13_0 : W6.cell? ⟨w5.heap.size + 1, 0, none⟩ = some (.int .i64 E0) := (blk_cell HK13.out 0).trans rfl
                  have hx13_1 : W6.cell? ⟨w5.heap.size + 1, 1, none⟩ = some (.slice A3 E1.length c3) := (blk_cell HK13.out 1).trans rfl
                  have hx13_2 : W6.cell? ⟨w5.heap.size + 1, 2, none⟩ = some (.bool E2) := (blk_cell HK13.out 2).trans rfl
                  have hq0 := HI6.out.cells.1
                  have hx1 : W6.cell? ⟨g7, 1, none⟩ = some (.int .i64 D1) := (blk_cell HK76.out 1).trans rfl
                  refine start_ (n := 17) (S := fun w' => w'.cell? ⟨w5.heap.size + 1, 0, none⟩ = some (.int .i64 E0) ∧ w'.cell? ⟨w5.heap.size + 1, 1, none⟩ = some (.slice A3 E1.length c3) ∧ w'.cell? ⟨w5.heap.size + 1, 2, none⟩ = some (.bool E2) ∧ w'.cell? ⟨w.heap.size, 0, none⟩ = some (.slice (some ad1) lst.length c) ∧ w'.cell? ⟨g7, 1, none⟩ = some (.int .i64 D1) ∧ w'.cell? (ad1.add (D1.toNat * 3)) = some (.int .i64 E0) ∧ w'.cell? ⟨(ad1.add (D1.toNat * 3)).block, (ad1.add (D1.toNat * 3)).off + 1, none⟩ = some (.slice A9 E1.length c9) ∧ w'.cell? ⟨(ad1.add (D1.toNat * 3)).block, (ad1.add (D1.toNat * 3)).off + 2, none⟩ = some (.bool E2)) (ds := []) #[false, false, false, false, false, false, false, false, false, false, false, false, false, false, false, false, false] (by kernel_rfl) rfl rfl ⟨hx13_0, hx13_1, hx13_2, hq0, hx1, hy0, hy1, hy2⟩ (fun hHeld => ?_)
                  obtain ⟨Wd, hWd⟩ : ∃ Wd, W6.drew = Wd := ⟨_, rfl⟩
                  have hbd : Below W6.heap.size W6 Wd := by rw [← hWd]; exact below_drew (Below.refl _ _)
                  have HId := Aside0.mk (HI6.out.step hbd)
                  have HK10d := Aside0.mk (blk_below HK106.out hbd)
                  have HK12d := Aside0.mk (blk_below HK12.out hbd)
                  have HVd := Aside0.mk (Kd.V_below HV6.out hbd)
                  have HCd := Aside0.mk (Kd.C_below HC3.out hbd)
                  have HC9d := Aside0.mk (Kd.C_below HI9.out hbd)
                  rw [hWd] at hHeld ⊢
                  clear hWd hbd hx13_0 hx13_1 hx13_2 hq0 hx1 hy0 hy1 hy2 HI6 HK106 HK12 HV6
                  refine pure_ (i := 0) (N := some 93) (v := ?_) (a' := ?_) #[true, false, false, false, false, false, false, false, false, false, false, false, false, false, false, false, false] rfl rfl (by kernel_rfl) (fun _ _ _ h => h) (Or.inl ⟨by rfl, ?_⟩) ?_ ?_
                  rotate_left
                  · intro w'
                    go_simp
                    with_reducible rfl
                  rotate_left
                  · simp only [Act.put, List.setIfInBounds_toArray, List.set_cons_zero, List.set_cons_succ, i64_w, i32_w]
                    rfl
                  refine pure_ (i := 1) (N := some 94) (v := ?_) (a' := ?_) #[true, true, false, false, false, false, false, false, false, false, false, false, false, false, false, false, false] rfl rfl (by kernel_rfl) (fun _ _ _ h => h) (Or.inl ⟨by rfl, ?_⟩) ?_ ?_
                  rotate_left
                  · intro w'
                    go_simp
                    with_reducible rfl
                  rotate_left
                  · simp only [Act.put, List.setIfInBounds_toArray, List.set_cons_zero, List.set_cons_succ, i64_w, i32_w]
                    rfl
                  refine pure_ (i := 2) (N := some 95) (v := ?_) (a' := ?_) #[true, true, true, false, false, false, false, false, false, false, false, false, false, false, false, false, false] rfl rfl (by kernel_rfl) (fun _ _ _ h => h) (Or.inl ⟨by rfl, ?_⟩) ?_ ?_
                  rotate_left
                  · intro w'
                    go_simp
                    with_reducible rfl
                  rotate_left
                  · simp only [Act.put, List.setIfInBounds_toArray, List.set_cons_zero, List.set_cons_succ, i64_w, i32_w]
                    rfl
                  refine pure_ (i := 3) (N := some 96) (v := ?_) (a' := ?_) #[true, true, true, true, false, false, false, false, false, false, false, false, false, false, false, false, false] rfl rfl (by kernel_rfl) (fun _ _ _ h => h) (Or.inl ⟨by rfl, ?_⟩) ?_ ?_
                  rotate_left
                  · intro w'
                    go_simp
                    with_reducible rfl
                  rotate_left
                  · simp only [Act.put, List.setIfInBounds_toArray, List.set_cons_zero, List.set_cons_succ, i64_w, i32_w]
                    rfl
                  refine pure_ (i := 4) (N := some 97) (v := ?_) (a' := ?_) #[true, true, true, true, true, false, false, false, false, false, false, false, false, false, false, false, false] rfl rfl (by kernel_rfl) (fun _ _ _ h => h) (Or.inl ⟨by rfl, ?_⟩) ?_ ?_
                  rotate_left
                  · intro w'
                    go_simp
                    with_reducible rfl
                  rotate_left
                  · simp only [Act.put, List.setIfInBounds_toArray, List.set_cons_zero, List.set_cons_succ, i64_w, i32_w]
                    rfl
                  refine pure_ (i := 5) (N := some 98) (v := ?_) (a' := ?_) #[true, true, true, true, true, true, false, false, false, false, false, false, false, false, false, false, false] rfl rfl (by kernel_rfl) (fun _ _ _ h => h) (Or.inl ⟨by rfl, ?_⟩) ?_ ?_
                  rotate_left
                  · intro w'
                    go_simp
                    with_reducible rfl
                  rotate_left
                  · simp only [Act.put, List.setIfInBounds_toArray, List.set_cons_zero, List.set_cons_succ, i64_w, i32_w]
                    rfl
                  refine pure_ (i := 7) (N := some 100) (v := ?_) (a' := ?_) #[true, true, true, true, true, true, false, true, false, false, false, false, false, false, false, false, false] rfl rfl (by kernel_rfl) (fun _ _ _ h => h) (Or.inl ⟨by rfl, ?_⟩) ?_ ?_
                  rotate_left
                  · intro w'
                    go_simp
                    with_reducible rfl
                  rotate_left
                  · simp only [Act.put, List.setIfInBounds_toArray, List.set_cons_zero, List.set_cons_succ, i64_w, i32_w]
                    rfl
                  refine pure_ (i := 9) (N := some 102) (v := ?_) (a' := ?_) #[true, true, true, true, true, true, false, true, false, true, false, false, false, false, false, false, false] rfl rfl (by kernel_rfl) (fun _ _ _ h => h) (Or.inl ⟨by rfl, ?_⟩) ?_ ?_
                  rotate_left
                  · intro w'
                    go_simp
                    with_reducible rfl
                  rotate_left
                  · simp only [Act.put, List.setIfInBounds_toArray, List.set_cons_zero, List.set_cons_succ, i64_w, i32_w]
                    rfl
                  refine take_ (i := 6) (N := some 99) (v := ?_) (a' := ?_) #[true, true, true, true, true, true, true, true, false, true, false, false, false, false, false, false, false] rfl rfl (by kernel_rfl) (fun _ _ _ h => h) (Or.inl ⟨by rfl, ?_⟩) hHeld ?_ ?_
                  rotate_left
                  · rintro w' ⟨s0, s1, s2, s3, s4, s5, s6, s7⟩
                    go_simp
                    with_reducible rfl
                  rotate_left
                  · simp only [Act.put, List.setIfInBounds_toArray, List.set_cons_zero, List.set_cons_succ, i64_w, i32_w]
                    rfl
                  refine take_ (i := 8) (N := some 101) (v := ?_) (a' := ?_) #[true, true, true, true, true, true, true, true, true, true, false, false, false, false, false, false, false] rfl rfl (by kernel_rfl) (fun _ _ _ h => h) (Or.inl ⟨by rfl, ?_⟩) hHeld ?_ ?_
                  rotate_left
                  · rintro w' ⟨s0, s1, s2, s3, s4, s5, s6, s7⟩
                    go_simp
                    with_reducible rfl
                  rotate_left
                  · simp only [Act.put, List.setIfInBounds_toArray, List.set_cons_zero, List.set_cons_succ, i64_w, i32_w]
                    rfl
                  refine take_ (i := 10) (N := some 103) (v := ?_) (a' := ?_) #[true, true, true, true, true, true, true, true, true, true, true, false, false, false, false, false, false] rfl rfl (by kernel_rfl) (fun _ _ _ h => h) (Or.inl ⟨by rfl, ?_⟩) hHeld ?_ ?_
                  rotate_left
                  · rintro w' ⟨s0, s1, s2, s3, s4, s5, s6, s7⟩
                    go_simp
                    with_reducible rfl
                  rotate_left
                  · simp only [Act.put, List.setIfInBounds_toArray, List.set_cons_zero, List.set_cons_succ, i64_w, i32_w]
                    rfl
                  refine pure_ (i := 11) (N := some 104) (v := ?_) (a' := ?_) #[true, true, true, true, true, true, true, true, true, true, true, true, false, false, false, false, false] rfl rfl (by kernel_rfl) (fun _ _ _ h => h) (Or.inl ⟨by rfl, ?_⟩) ?_ ?_
                  rotate_left
                  · intro w'
                    go_simp
                    with_reducible rfl
                  rotate_left
                  · simp only [Act.put, List.setIfInBounds_toArray, List.set_cons_zero, List.set_cons_succ, i64_w, i32_w]
                    rfl
                  refine take_ (i := 12) (N := some 105) (v := ?_) (a' := ?_) #[true, true, true, true, true, true, true, true, true, true, true, true, true, false, false, false, false] rfl rfl (by kernel_rfl) (fun _ _ _ h => h) (Or.inl ⟨by rfl, ?_⟩) hHeld ?_ ?_
                  rotate_left
                  · rintro w' ⟨s0, s1, s2, s3, s4, s5, s6, s7⟩
                    go_simp
                    with_reducible rfl
                  rotate_left
                  · simp only [Act.put, List.setIfInBounds_toArray, List.set_cons_zero, List.set_cons_succ, i64_w, i32_w]
                    rfl
                  refine one_ (i := 13) (N := some 106) #[true, true, true, true, true, true, true, true, true, true, true, true, true, true, false, false, false] rfl rfl (by kernel_rfl) (by decide) (fun K hK => ?_)
                  refine goes_ Try.func10 (by kernel_rfl) rfl #[.agg #[.int .i64 E0, .slice A3 E1.length c3, .bool E2], .agg #[.int .i64 E0, .slice A9 E1.length c9, .bool E2]] (by rfl) rfl rfl (by (try simp only [List.map_toArray, List.map_cons, List.map_nil]); first | done | rfl) ?_
                  refine (garlandref08_Gram.calls E0 A3 c3 E1 E2 E0 A9 c9 E1 E2 true _ HCd.out HR3.out.1 HC9d.out HL9.out (Gram_refl E0 E1 E2)).mono ?_
                  rintro e w7 ⟨rfl, hb7⟩
                  have HS0 := (hb7.cell (World.block_lt_of_cell? _ _ (hHeld.1))).trans (hHeld.1)
                  have HS1 := (hb7.cell (World.block_lt_of_cell? _ _ (hHeld.2.1))).trans (hHeld.2.1)
                  have HS2 := (hb7.cell (World.block_lt_of_cell? _ _ (hHeld.2.2.1))).trans (hHeld.2.2.1)
                  have HS3 := (hb7.cell (World.block_lt_of_cell? _ _ (hHeld.2.2.2.1))).trans (hHeld.2.2.2.1)
                  have HS4 := (hb7.cell (World.block_lt_of_cell? _ _ (hHeld.2.2.2.2.1))).trans (hHeld.2.2.2.2.1)
                  have HS5 := (hb7.cell (World.block_lt_of_cell? _ _ (hHeld.2.2.2.2.2.1))).trans (hHeld.2.2.2.2.2.1)
                  have HS6 := (hb7.cell (World.block_lt_of_cell? _ _ (hHeld.2.2.2.2.2.2.1))).trans (hHeld.2.2.2.2.2.2.1)
                  have HS7 := (hb7.cell (World.block_lt_of_cell? _ _ (hHeld.2.2.2.2.2.2.2))).trans (hHeld.2.2.2.2.2.2.2)
                  refine ⟨_, rfl, ?_⟩
                  have HI7 := Aside0.mk (HId.out.step hb7)
                  have HK107 := Aside0.mk (blk_below HK10d.out hb7)
                  have HK127 := Aside0.mk (blk_below HK12d.out hb7)
                  have HV7 := Aside0.mk (Kd.V_below HVd.out hb7)
                  refine hK.out _ _ ⟨HS0, HS1, HS2, HS3, HS4, HS5, HS6, HS7⟩ (fun hHeld => ?_)
                  clear hK K
                  refine norm_ (a' := ?_) ?_ ?_
                  rotate_left
                  · show Act.put _ (some 106) _ = _
                    simp only [Act.put, List.setIfInBounds_toArray, List.set_cons_zero, List.set_cons_succ, i64_w, i32_w]
                    rfl
                  refine pure_ (i := 14) (N := some 107) (v := ?_) (a' := ?_) #[true, true, true, true, true, true, true, true, true, true, true, true, true, true, true, false, false] rfl rfl (by kernel_rfl) (fun _ _ _ h => h) (Or.inl ⟨by rfl, ?_⟩) ?_ ?_
                  rotate_left
                  · intro w'
                    go_simp
                    with_reducible rfl
                  rotate_left
                  · simp only [Act.put, List.setIfInBounds_toArray, List.set_cons_zero, List.set_cons_succ, i64_w, i32_w]
                    rfl
                  refine pure_ (i := 15) (N := some 108) (v := ?_) (a' := ?_) #[true, true, true, true, true, true, true, true, true, true, true, true, true, true, true, true, false] rfl rfl (by kernel_rfl) (fun _ _ _ h => h) (Or.inl ⟨by rfl, ?_⟩) ?_ ?_
                  rotate_left
                  · intro w'
                    go_simp
                    with_reducible rfl
                  rotate_left
                  · simp only [Act.put, List.setIfInBounds_toArray, List.set_cons_zero, List.set_cons_succ, i64_w, i32_w]
                    rfl
                  refine pure_ (i := 16) (N := some 109) (v := ?_) (a' := ?_) #[true, true, true, true, true, true, true, true, true, true, true, true, true, true, true, true, true] rfl rfl (by kernel_rfl) (fun _ _ _ h => h) (Or.inl ⟨by rfl, ?_⟩) ?_ ?_
                  rotate_left
                  · intro w'
                    go_simp
                    with_reducible rfl
                  rotate_left
                  · simp only [Act.put, List.setIfInBounds_toArray, List.set_cons_zero, List.set_cons_succ, i64_w, i32_w]
                    rfl
                  refine done_ (by kernel_rfl) ?_
                  clear hHeld HS0 HS1 HS2 HS3 HS4 HS5 HS6 HS7
                  have hz0 : w7.cell? ⟨g10, 0, none⟩ = some (.slice none 0 0) := (blk_cell HK107.out 0).trans rfl
                  have hz1 : w7.cell? ⟨g10, 1, none⟩ = some (.int .i64 0) := (blk_cell HK107.out 1).trans rfl
                  have hf0 := blk_frozen HK107.out 0
                  have hf1 := blk_frozen HK107.out 1
                  have hp0 : w7.cell? ⟨w5.heap.size, 0, none⟩ = some (.slice A' R1.length c') := (blk_cell HK127.out 0).trans rfl
                  have hp1 : w7.cell? ⟨w5.heap.size, 1, none⟩ = some (.int .i64 lost) := (blk_cell HK127.out 1).trans rfl
                  go_wp2
                  go_meet
                  case rel => exact ⟨R1, lost, sent, taken + 1, 0, A', c', rfl, by have h1 := HP.out.few; have h2 := HP.out.sum; simp only [if_true] at h1 h2; rw [wrap_mid _ (by omega) (by omega)], rfl, ⟨AfterW.of HI7.out HK107.out HN10.out HV7.out⟩, HP⟩
                | false =>
                  clear hb
                  refine start_ (n := 17) (S := fun w' => True) (ds := []) #[false, false, false, false, false, false, false, false, false, false, false, false, false, false, false, false, false] (by kernel_rfl) rfl rfl trivial (fun hHeld => ?_)
                  obtain ⟨Wd, hWd⟩ : ∃ Wd, W6.drew = Wd := ⟨_, rfl⟩
                  have hbd : Below W6.heap.size W6 Wd := by rw [← hWd]; exact below_drew (Below.refl _ _)
                  have HId := Aside0.mk (HI6.out.step hbd)
                  have HK10d := Aside0.mk (blk_below HK106.out hbd)
                  have HK12d := Aside0.mk (blk_below HK12.out hbd)
                  have HVd := Aside0.mk (Kd.V_below HV6.out hbd)
                  rw [hWd]
                  clear hWd hbd HI6 HK106 HK12 HV6
                  refine pure_ (i := 0) (N := some 93) (v := ?_) (a' := ?_) #[true, false, false, false, false, false, false, false, false, false, false, false, false, false, false, false, false] rfl rfl (by kernel_rfl) (fun _ _ _ h => h) (Or.inl ⟨by rfl, ?_⟩) ?_ ?_
                  rotate_left
                  · intro w'
                    go_simp
                    with_reducible rfl
                  rotate_left
                  · simp only [Act.put, List.setIfInBounds_toArray, List.set_cons_zero, List.set_cons_succ, i64_w, i32_w]
                    rfl
                  refine pure_ (i := 1) (N := some 94) (v := ?_) (a' := ?_) #[true, true, false, false, false, false, false, false, false, false, false, false, false, false, false, false, false] rfl rfl (by kernel_rfl) (fun _ _ _ h => h) (Or.inl ⟨by rfl, ?_⟩) ?_ ?_
                  rotate_left
                  · intro w'
                    go_simp
                    with_reducible rfl
                  rotate_left
                  · simp only [Act.put, List.setIfInBounds_toArray, List.set_cons_zero, List.set_cons_succ, i64_w, i32_w]
                    rfl
                  refine pure_ (i := 2) (N := some 95) (v := ?_) (a' := ?_) #[true, true, true, false, false, false, false, false, false, false, false, false, false, false, false, false, false] rfl rfl (by kernel_rfl) (fun _ _ _ h => h) (Or.inl ⟨by rfl, ?_⟩) ?_ ?_
                  rotate_left
                  · intro w'
                    go_simp
                    with_reducible rfl
                  rotate_left
                  · simp only [Act.put, List.setIfInBounds_toArray, List.set_cons_zero, List.set_cons_succ, i64_w, i32_w]
                    rfl
                  refine pure_ (i := 3) (N := some 96) (v := ?_) (a' := ?_) #[true, true, true, true, false, false, false, false, false, false, false, false, false, false, false, false, false] rfl rfl (by kernel_rfl) (fun _ _ _ h => h) (Or.inl ⟨by rfl, ?_⟩) ?_ ?_
                  rotate_left
                  · intro w'
                    go_simp
                    with_reducible rfl
                  rotate_left
                  · simp only [Act.put, List.setIfInBounds_toArray, List.set_cons_zero, List.set_cons_succ, i64_w, i32_w]
                    rfl
                  refine pure_ (i := 4) (N := some 97) (v := ?_) (a' := ?_) #[true, true, true, true, true, false, false, false, false, false, false, false, false, false, false, false, false] rfl rfl (by kernel_rfl) (fun _ _ _ h => h) (Or.inl ⟨by rfl, ?_⟩) ?_ ?_
                  rotate_left
                  · intro w'
                    go_simp
                    with_reducible rfl
                  rotate_left
                  · simp only [Act.put, List.setIfInBounds_toArray, List.set_cons_zero, List.set_cons_succ, i64_w, i32_w]
                    rfl
                  refine pure_ (i := 5) (N := some 98) (v := ?_) (a' := ?_) #[true, true, true, true, true, true, false, false, false, false, false, false, false, false, false, false, false] rfl rfl (by kernel_rfl) (fun _ _ _ h => h) (Or.inl ⟨by rfl, ?_⟩) ?_ ?_
                  rotate_left
                  · intro w'
                    go_simp
                    with_reducible rfl
                  rotate_left
                  · simp only [Act.put, List.setIfInBounds_toArray, List.set_cons_zero, List.set_cons_succ, i64_w, i32_w]
                    rfl
                  refine pure_ (i := 6) (N := some 99) (v := undef) (a' := ?_) #[true, true, true, true, true, true, true, false, false, false, false, false, false, false, false, false, false] rfl rfl (by kernel_rfl) (fun _ _ _ h => h) (Or.inr ⟨by rfl, rfl⟩) ?_ ?_
                  rotate_left
                  · simp only [Act.put, List.setIfInBounds_toArray, List.set_cons_zero, List.set_cons_succ, i64_w, i32_w]
                    rfl
                  refine pure_ (i := 7) (N := some 100) (v := undef) (a' := ?_) #[true, true, true, true, true, true, true, true, false, false, false, false, false, false, false, false, false] rfl rfl (by kernel_rfl) (fun _ _ _ h => h) (Or.inr ⟨by rfl, rfl⟩) ?_ ?_
                  rotate_left
                  · simp only [Act.put, List.setIfInBounds_toArray, List.set_cons_zero, List.set_cons_succ, i64_w, i32_w]
                    rfl
                  refine pure_ (i := 8) (N := some 101) (v := undef) (a' := ?_) #[true, true, true, true, true, true, true, true, true, false, false, false, false, false, false, false, false] rfl rfl (by kernel_rfl) (fun _ _ _ h => h) (Or.inr ⟨by rfl, rfl⟩) ?_ ?_
                  rotate_left
                  · simp only [Act.put, List.setIfInBounds_toArray, List.set_cons_zero, List.set_cons_succ, i64_w, i32_w]
                    rfl
                  refine pure_ (i := 9) (N := some 102) (v := undef) (a' := ?_) #[true, true, true, true, true, true, true, true, true, true, false, false, false, false, false, false, false] rfl rfl (by kernel_rfl) (fun _ _ _ h => h) (Or.inr ⟨by rfl, rfl⟩) ?_ ?_
                  rotate_left
                  · simp only [Act.put, List.setIfInBounds_toArray, List.set_cons_zero, List.set_cons_succ, i64_w, i32_w]
                    rfl
                  refine pure_ (i := 10) (N := some 103) (v := undef) (a' := ?_) #[true, true, true, true, true, true, true, true, true, true, true, false, false, false, false, false, false] rfl rfl (by kernel_rfl) (fun _ _ _ h => h) (Or.inr ⟨by rfl, rfl⟩) ?_ ?_
                  rotate_left
                  · simp only [Act.put, List.setIfInBounds_toArray, List.set_cons_zero, List.set_cons_succ, i64_w, i32_w]
                    rfl
                  refine pure_ (i := 11) (N := some 104) (v := undef) (a' := ?_) #[true, true, true, true, true, true, true, true, true, true, true, true, false, false, false, false, false] rfl rfl (by kernel_rfl) (fun _ _ _ h => h) (Or.inr ⟨by rfl, rfl⟩) ?_ ?_
                  rotate_left
                  · simp only [Act.put, List.setIfInBounds_toArray, List.set_cons_zero, List.set_cons_succ, i64_w, i32_w]
                    rfl
                  refine pure_ (i := 12) (N := some 105) (v := undef) (a' := ?_) #[true, true, true, true, true, true, true, true, true, true, true, true, true, false, false, false, false] rfl rfl (by kernel_rfl) (fun _ _ _ h => h) (Or.inr ⟨by rfl, rfl⟩) ?_ ?_
                  rotate_left
                  · simp only [Act.put, List.setIfInBounds_toArray, List.set_cons_zero, List.set_cons_succ, i64_w, i32_w]
                    rfl
                  refine pure_ (i := 13) (N := some 106) (v := undef) (a' := ?_) #[true, true, true, true, true, true, true, true, true, true, true, true, true, true, false, false, false] rfl rfl (by kernel_rfl) (fun _ _ _ h => h) (Or.inr ⟨by rfl, rfl⟩) ?_ ?_
                  rotate_left
                  · simp only [Act.put, List.setIfInBounds_toArray, List.set_cons_zero, List.set_cons_succ, i64_w, i32_w]
                    rfl
                  refine pure_ (i := 14) (N := some 107) (v := undef) (a' := ?_) #[true, true, true, true, true, true, true, true, true, true, true, true, true, true, true, false, false] rfl rfl (by kernel_rfl) (fun _ _ _ h => h) (Or.inr ⟨by rfl, rfl⟩) ?_ ?_
                  rotate_left
                  · simp only [Act.put, List.setIfInBounds_toArray, List.set_cons_zero, List.set_cons_succ, i64_w, i32_w]
                    rfl
                  refine pure_ (i := 15) (N := some 108) (v := ?_) (a' := ?_) #[true, true, true, true, true, true, true, true, true, true, true, true, true, true, true, true, false] rfl rfl (by kernel_rfl) (fun _ _ _ h => h) (Or.inl ⟨by rfl, ?_⟩) ?_ ?_
                  rotate_left
                  · intro w'
                    go_simp
                    with_reducible rfl
                  rotate_left
                  · simp only [Act.put, List.setIfInBounds_toArray, List.set_cons_zero, List.set_cons_succ, i64_w, i32_w]
                    rfl
                  refine pure_ (i := 16) (N := some 109) (v := ?_) (a' := ?_) #[true, true, true, true, true, true, true, true, true, true, true, true, true, true, true, true, true] rfl rfl (by kernel_rfl) (fun _ _ _ h => h) (Or.inl ⟨by rfl, ?_⟩) ?_ ?_
                  rotate_left
                  · intro w'
                    go_simp
                    with_reducible rfl
                  rotate_left
                  · simp only [Act.put, List.setIfInBounds_toArray, List.set_cons_zero, List.set_cons_succ, i64_w, i32_w]
                    rfl
                  refine done_ (by kernel_rfl) ?_
                  have hz0 : Wd.cell? ⟨g10, 0, none⟩ = some (.slice none 0 0) := (blk_cell HK10d.out 0).trans rfl
                  have hz1 : Wd.cell? ⟨g10, 1, none⟩ = some (.int .i64 0) := (blk_cell HK10d.out 1).trans rfl
                  have hf0 := blk_frozen HK10d.out 0
                  have hf1 := blk_frozen HK10d.out 1
                  have hp0 : Wd.cell? ⟨w5.heap.size, 0, none⟩ = some (.slice A' R1.length c') := (blk_cell HK12d.out 0).trans rfl
                  have hp1 : Wd.cell? ⟨w5.heap.size, 1, none⟩ = some (.int .i64 lost) := (blk_cell HK12d.out 1).trans rfl
                  go_wp2
                  go_meet
                  case rel => exact ⟨R1, lost, sent, taken, 0, A', c', rfl, rfl, rfl, ⟨AfterW.of HId.out HK10d.out HN10.out HVd.out⟩, HP⟩
              have s1 : (D0 == 1) = false := beq_eq_false_iff_ne.mpr d1
              by_cases d2 : D0 = 2
              · have s2 : (D0 == 2) = true := beq_iff_eq.mpr d2
                clear d2
                go_wp2_with (go_at_call 13; refine Stop.out ?_)
                refine ⟨?_⟩
                obtain ⟨R1, R2, R3, hf, hP⟩ := drop_some HSU.out (by omega) D1
                have HP := Aside0.mk hP
                refine (bag_Drop.calls A c lst lost D1 R1 R2 R3 _ (Kd.V_reads' HI2.out.row).2.2 (Kd.V_reads' HI2.out.row).2.1 hf).mono ?_
                clear hf hP
                rintro e w5 ⟨v0, rfl, hS, hb5⟩
                dsimp only
                obtain ⟨A', c', rfl, hV⟩ := made hS
                have HVR := Aside0.mk (Kd.V_mono (ok' := fun q => g7 ≤ q ∧ q ≠ g10) hV (fun q hq => by have h1 := (Array.getElem?_eq_some_iff.mp HK10.out).1; have h2 := HN10.out; omega))
                have HI5' := Aside0.mk (HI2.out.step hb5)
                have HK103 := Aside0.mk (blk_below HK10.out hb5)
                clear hS hV hb5 hx0 hx1 hq0 hq1
                have hz0 : w5.cell? ⟨g10, 0, none⟩ = some (.slice none 0 0) := (blk_cell HK103.out 0).trans rfl
                have hz1 : w5.cell? ⟨g10, 1, none⟩ = some (.int .i64 0) := (blk_cell HK103.out 1).trans rfl
                have hf0 := blk_frozen HK103.out 0
                have hf1 := blk_frozen HK103.out 1
                go_wp2
                go_meet
                case rel => exact ⟨R1, R2, sent, taken, R3, A', c', rfl, rfl, rfl, ⟨AfterW.of HI5'.out HK103.out HN10.out HVR.out⟩, HP⟩
              have s2 : (D0 == 2) = false := beq_eq_false_iff_ne.mpr d2
              by_cases d3 : D0 = 3
              · have s3 : (D0 == 3) = true := beq_iff_eq.mpr d3
                clear d3
                go_wp2_with (go_at_call 14; refine Stop.out ?_)
                refine ⟨?_⟩
                obtain ⟨R1, R2, R3, hf, hP⟩ := twice_some HSU.out (by omega) D1
                rw [hb] at hP
                have HP := Aside0.mk hP
                refine (bag_Twice.calls A c lst lost D1 R1 R2 R3 _ (Kd.V_reads' HI2.out.row).2.2 (Kd.V_reads' HI2.out.row).2.1 hf).mono ?_
                clear hf hP
                rintro e w5 ⟨v0, rfl, hS, hb5⟩
                dsimp only
                obtain ⟨A', c', rfl, hV⟩ := made hS
                have HVR := Aside0.mk (Kd.V_mono (ok' := fun q => g7 ≤ q ∧ q ≠ g10) hV (fun q hq => by have h1 := (Array.getElem?_eq_some_iff.mp HK10.out).1; have h2 := HN10.out; omega))
                have HI5' := Aside0.mk (HI2.out.step hb5)
                have HK103 := Aside0.mk (blk_below HK10.out hb5)
                clear hS hV hb5 hx0 hx1 hq0 hq1
                have hz0 : w5.cell? ⟨g10, 0, none⟩ = some (.slice none 0 0) := (blk_cell HK103.out 0).trans rfl
                have hz1 : w5.cell? ⟨g10, 1, none⟩ = some (.int .i64 0) := (blk_cell HK103.out 1).trans rfl
                have hf0 := blk_frozen HK103.out 0
                have hf1 := blk_frozen HK103.out 1
                clear hb
                cases b with
                | true =>
                  go_wp2
                  go_meet
                  case rel => exact ⟨R1, R2, sent + 1, taken, R3, A', c', by have h1 := HP.out.few; have h2 := HP.out.sum; simp only [if_true] at h1 h2; rw [wrap_mid _ (by omega) (by omega)], rfl, rfl, ⟨AfterW.of HI5'.out HK103.out HN10.out HVR.out⟩, HP⟩
                | false =>
                  go_wp2
                  go_meet
                  case rel => exact ⟨R1, R2, sent, taken, R3, A', c', rfl, rfl, rfl, ⟨AfterW.of HI5'.out HK103.out HN10.out HVR.out⟩, HP⟩
              have s3 : (D0 == 3) = false := beq_eq_false_iff_ne.mpr d3
              have hx2 : W2.cell? ⟨g7, 2, none⟩ = some (.int .i64 D2) := (blk_cell HK7.out 2).trans rfl
              have hx3 : W2.cell? ⟨g7, 3, none⟩ = some (.int .u8 D3) := (blk_cell HK7.out 3).trans rfl
              go_upto_region 17 with (go_at_call 15; refine Stop.out ?_)
              refine ⟨?_⟩
              obtain ⟨R1, R2, R3, hf, hP, hH⟩ := harm_some HSU.out (by omega) D1 D2 D3
              have HP := Aside0.mk hP
              have HH := Aside0.mk hH
              refine (bag_Harm.calls A c lst lost D1 D2 D3 R1 R2 R3 _ (Kd.V_reads' HI2.out.row).2.2 (Kd.V_reads' HI2.out.row).2.1 hf).mono ?_
              clear hf hP hH
              rintro e w5 ⟨v0, rfl, hS, hb5⟩
              dsimp only
              clear hx2 hx3
              obtain ⟨A', c', rfl, hV⟩ := made hS
              have HBS := Aside0.mk hb5
              have HVR := Aside0.mk (Kd.V_mono (ok' := fun q => g7 ≤ q ∧ q ≠ g10) hV (fun q hq => by have h1 := (Array.getElem?_eq_some_iff.mp HK10.out).1; have h2 := HN10.out; omega))
              have HI5' := Aside0.mk (HI2.out.step hb5)
              have HK103 := Aside0.mk (blk_below HK10.out hb5)
              clear hS hV hb5 hx0 hx1 hq0 hq1
              have hz0 : w5.cell? ⟨g10, 0, none⟩ = some (.slice none 0 0) := (blk_cell HK103.out 0).trans rfl
              have hz1 : w5.cell? ⟨g10, 1, none⟩ = some (.int .i64 0) := (blk_cell HK103.out 1).trans rfl
              have hf0 := blk_frozen HK103.out 0
              have hf1 := blk_frozen HK103.out 1

              go_upto_region 17 with (fail)
              obtain ⟨W6, hW6⟩ : ∃ W, (w5.setCell ⟨g10, 0, none⟩ (.slice A' R1.length c')).setCell ⟨g10, 1, none⟩ (.int .i64 R2) = W := ⟨_, rfl⟩
              have HW := Aside0.mk (show AfterW w lst lost A c g10 R1 R2 A' c' W6 by rw [← hW6]; exact AfterW.of HI5'.out HK103.out HN10.out HVR.out)
              have HK71 := Aside0.mk (show W6.heap[g7]? = some (.cells #[.int .i64 D0, .int .i64 D1, .int .i64 D2, .int .u8 D3, .int .i64 G0, .slice A5 G1.length c5, .bool G2] 46 (0, 0)) by rw [← hW6]; exact blk_far (blk_far (blk_below HK7.out HBS.out) (show g7 ≠ g10 by have := HN10.out; omega) _) (show g7 ≠ g10 by have := HN10.out; omega) _)
              rw [hW6]
              clear hW6 hz0 hz1 hf0 hf1 HI5' HK103 HVR HK7 HK10 HI2
              have hx1 : W6.cell? ⟨g7, 1, none⟩ = some (.int .i64 D1) := (blk_cell HK71.out 1).trans rfl
              have hq0 : W6.cell? ⟨w.heap.size, 0, none⟩ = some (.slice A lst.length c) := (blk_cell HW.out.box 0).trans rfl
              have hz0 : W6.cell? ⟨g10, 0, none⟩ = some (.slice A' R1.length c') := (blk_cell HW.out.box' 0).trans rfl
              by_cases hr3 : R3 = 0
              · have q1 : (R3 == 0) = true := beq_iff_eq.mpr hr3
                have HH1 := Aside0.mk (HH.out hr3)
                clear hr3
                go_wp2_with (go_at_call 18; refine Stop.out ?_)
                refine ⟨?_⟩
                refine (garlandlaw08_harmed.calls A c lst A' c' R1 D1 true _ (Kd.V_reads' HW.out.row).2.2 (Kd.V_reads' HW.out.row).2.1 (Kd.V_reads' HW.out.row').2.2 (Kd.V_reads' HW.out.row').2.1 HH1.out).mono ?_
                rintro e w7 ⟨rfl, hb7⟩
                dsimp only
                have HW7 := Aside0.mk (HW.out.step hb7)
                clear hb7 hx1 hq0 hz0
                go_wp2
                go_meet
                case rel => exact ⟨R1, R2, sent, taken, R3, A', c', rfl, rfl, rfl, HW7, HP⟩
              · have q1 : (R3 == 0) = false := beq_eq_false_iff_ne.mpr hr3
                clear hr3
                go_wp2
                go_meet
                case rel => exact ⟨R1, R2, sent, taken, R3, A', c', rfl, rfl, rfl, HW, HP⟩
          case rest =>
            obtain ⟨R, n', sent', taken', e, A', c', rfl, rfl, rfl, HW, HP⟩ := hcut
            clear hx0 hq0 hq1
            have hz0 : wc.cell? ⟨g10, 0, none⟩ = some (.slice A' R.length c') := (blk_cell HW.out.box' 0).trans rfl
            have hz1 : wc.cell? ⟨g10, 1, none⟩ = some (.int .i64 n') := (blk_cell HW.out.box' 1).trans rfl
            have hq0 : wc.cell? ⟨w.heap.size, 0, none⟩ = some (.slice A lst.length c) := (blk_cell HW.out.box 0).trans rfl
            have hq1 : wc.cell? ⟨w.heap.size, 1, none⟩ = some (.int .i64 lost) := (blk_cell HW.out.box 1).trans rfl
            have i1 : (sent' != wrap64 (wrap64 ((R.length : Int) + taken') + n')) = false := bne_eq_false_iff_eq.mpr (by
              have h1 := HP.out.few; have h2 := HP.out.sum
              rw [wrap_mid ((R.length : Int) + taken') (by omega) (by omega), wrap_mid _ (by omega) (by omega), h2])
            have i2 : decide ((R.length : Int) > 400) = false := decide_eq_false (by have h1 := HP.out.few; omega)
            have i3 : decide ((400 : Int) < R.length) = false := decide_eq_false (by have h1 := HP.out.few; omega)
            have i4 : decide (400 < R.length) = false := decide_eq_false (by have h1 := HP.out.few; omega)
            have hg0 := blk_frozen HW.out.box 0
            have hg1 := blk_frozen HW.out.box 1
            rcases HP.out.err with he | ⟨he, hR, hn⟩
            · have q1 : (e != 0) = false := bne_eq_false_iff_eq.mpr he
              clear he
              go_wp2
              go_roundg (gk - 1)
              case measure => omega
              case rel => exact ⟨k + 1, R, n', sent', taken', A', c', rfl, rfl, by simp, by omega, ⟨HW.out.next HP.out⟩⟩
            · have q1 : (e != 0) = true := by rw [he]; rfl
              have q2 : (e != 2) = false := by rw [he]; rfl
              have hsame : garlandref08_Same.f 500 R n' lst lost = some true := by rw [hR, hn]; exact Same_refl lst lost HSU.out.few.1
              clear he hR hn
              go_wp2_with (go_at_call 17; refine Stop.out ?_)
              refine ⟨?_⟩
              refine (garlandref08_Same.calls 500 A' c' R n' A c lst lost true _ (Kd.V_reads' HW.out.row').2.2 (Kd.V_reads' HW.out.row').2.1 (Kd.V_reads' HW.out.row).2.2 (Kd.V_reads' HW.out.row).2.1 hsame).mono ?_
              rintro e2 w8 ⟨rfl, hb8⟩
              dsimp only
              have HW8 := Aside0.mk (HW.out.step hb8)
              clear hb8 hz0 hz1 hq0 hq1 hg0 hg1
              have hz0 : w8.cell? ⟨g10, 0, none⟩ = some (.slice A' R.length c') := (blk_cell HW8.out.box' 0).trans rfl
              have hz1 : w8.cell? ⟨g10, 1, none⟩ = some (.int .i64 n') := (blk_cell HW8.out.box' 1).trans rfl
              have hq0 : w8.cell? ⟨w.heap.size, 0, none⟩ = some (.slice A lst.length c) := (blk_cell HW8.out.box 0).trans rfl
              have hq1 : w8.cell? ⟨w.heap.size, 1, none⟩ = some (.int .i64 lost) := (blk_cell HW8.out.box 1).trans rfl
              have hg0 := blk_frozen HW8.out.box 0
              have hg1 := blk_frozen HW8.out.box 1
              go_wp2
              go_roundg (gk - 1)
              case measure => omega
              case rel => exact ⟨k + 1, R, n', sent', taken', A', c', rfl, rfl, by simp, by omega, ⟨HW8.out.next HP.out⟩⟩
      · obtain rfl : k = l.length := by omega
        have hd1 : decide ((l.length : Int) < (l.length : Int)) = false := decide_eq_false (by omega)
        have hd2 : decide (l.length < l.length) = false := decide_eq_false (by omega)
        go_wp2_with (go_at_call 6; refine Stop.out ?_)
        refine ⟨?_⟩
        refine (wakes_calls _).mono ?_
        rintro e w1 ⟨rfl, hb⟩
        dsimp only
        have HB := Aside0.mk (HI.out.below.trans (hb.mono HI.out.below.size))
        clear hb
        go_wp2
        go_ret
        exact ⟨rfl, HB.out⟩
end Go.Proofs.Ytoookgkhelcngaa.G
