/- slices.Concat of two rows of datagrams: their cells, one row behind the other, in memory of its own. -/
import Derived.Test.YtoookgkhelcngaaH4
import Derived.Lib.AppendZeros
namespace Go.Proofs.Ytoookgkhelcngaa.G
open Go.RowKit Go.Proofs.YtoookgkhelcngaaW.PrintWords Go.Proofs.YtoookgkhelcngaaW.PrintLast Go.Proofs.YtoookgkhelcngaaW.PrintMore
open Go.Shelf
set_option linter.unusedVariables false
set_option linter.unusedSimpArgs false

set_option maxRecDepth 100000 in
set_option maxHeartbeats 8000000 in
theorem grow_nil (n : Nat) (h0 : 0 < n) (hn : n ≤ 1000000000) (w : World) :
    Calls Try.prog 33 #[.slice none 0 0, .int .i64 (n : Int)] w fun e w' => ∃ v, e = .returned v ∧ Kd.R (Kd.raw 3) 26 w' w.heap.size (fun _ => True) v [] ∧ Below w.heap.size w w' := by
  obtain ⟨i0, hi, hz0, hz1, hz2⟩ := info_parts info26
  have hrun := Lib.run_append_nil_zeros (P := Try.prog) w 22 3 22 26 i0 (.agg #[(.int .i64 0), (.slice none 0 0), (.bool false)]) .i64 .i64 Try.underlying22 Try.underlying3 hi hz0 n h0 (by omega) (by omega) (by rw [hz2]; omega)
  have hge := grownCap_ge w n 0 26
  have hle := grownCap_le_maxLen w n 0 26 (by unfold maxLen; omega)
  obtain ⟨C, hC⟩ : ∃ C, grownCap w n 0 26 = C := ⟨_, rfl⟩
  rw [hC] at hrun hge hle
  clear hC
  obtain ⟨cs, hcs⟩ : ∃ cs, Builtin.zeroCells (Value.agg #[(.int .i64 0), (.slice none 0 0), (.bool false)]).cells n ++ Builtin.zeroCells (Value.agg #[(.int .i64 0), (.slice none 0 0), (.bool false)]).cells (C - n) = cs := ⟨_, rfl⟩
  have hsz : cs.size = C * 3 := by rw [← hcs]; simp [Builtin.zeroCells, Value.cells]; omega
  rw [hcs] at hrun
  clear hcs
  have hB : Below w.heap.size w (w.drew.alloc (.cells cs 26)) := ((Below.refl w.heap.size w).drew).alloc (Nat.le_refl _) _
  have hR : Kd.R (Kd.raw 3) 26 (w.drew.alloc (.cells cs 26)) w.heap.size (fun _ => True) (.slice (some ⟨w.heap.size, 0, none⟩) 0 C) [] :=
    ⟨fun _ _ => trivial, [], World.ownsRow_made (base := w.heap.size) (size := 3) w.drew cs C (Nat.le_refl _) hle hsz, Reps.none _ _⟩
  have HR := Aside0.mk hR
  have HB := Aside0.mk hB
  clear hR hB
  go_enter Try.func33, Try.ntmps33
  go_wp2_with (at_builtin; refine Lib.wpList_append_run _ rfl _ _ _ _ rfl _ _ rfl rfl _ _ hrun ?_)
  go_ret
  exact ⟨_, rfl, HR.out, HB.out⟩

set_option maxRecDepth 100000 in
set_option maxHeartbeats 8000000 in
theorem grow_any (n : Nat) (hn : n ≤ 1000000000) (w : World) :
    Calls Try.prog 33 #[.slice none 0 0, .int .i64 (n : Int)] w fun e w' => ∃ v, e = .returned v ∧ Kd.R (Kd.raw 3) 26 w' w.heap.size (fun _ => True) v [] ∧ Below w.heap.size w w' := by
  rcases Nat.eq_zero_or_pos n with rfl | h
  · have HB := Aside0.mk (Below.refl w.heap.size w)
    go_enter Try.func33, Try.ntmps33
    go_wp2
    go_ret
    exact ⟨_, rfl, Kd.R_nil _ _ _ _ _, HB.out⟩
  · exact grow_nil n h hn w

set_option maxRecDepth 100000 in
set_option maxHeartbeats 8000000 in
theorem concat2 (b cp : Nat) (A1 A2 : Option Addr) (c1 c2 : Nat) (xs ys : List (List Value)) (w : World) (hp0 : w.cell? ⟨b, 0, none⟩ = some (.slice A1 xs.length c1)) (hp1 : w.cell? ⟨b, 1, none⟩ = some (.slice A2 ys.length c2))
    (hx : Kd.C (Kd.raw 3) w A1 xs.length xs) (hy : Kd.C (Kd.raw 3) w A2 ys.length ys) (hl : xs.length + ys.length ≤ 1000000) (hcp : 2 ≤ cp) :
    Calls Try.prog 24 #[.slice (some ⟨b, 0, none⟩) 2 cp] w fun e w' => ∃ v, e = .returned v ∧ Kd.R (Kd.raw 3) 26 w' w.heap.size (fun _ => True) v (xs ++ ys) ∧ Below w.heap.size w w' := by
  have HX := Aside0.mk hx
  have HY := Aside0.mk hy
  have HL := Aside0.mk hl
  have HP0 := Aside0.mk hp0
  have HP1 := Aside0.mk hp1
  clear hx hy
  go_enter Try.func24, Try.ntmps24
  go_wp2
  go_loop [3, 11] (fun v3 v11 => (v11 = .int .i64 0 ∧ v3 = .int .i64 0) ∨ (v11 = .int .i64 1 ∧ v3 = .int .i64 (xs.length : Int)) ∨ (v11 = .int .i64 2 ∧ v3 = .int .i64 ((xs.length : Int) + (ys.length : Int)))) (fun _ v11 => 2 - (intOf v11).toNat)
  case atStart => exact .inl ⟨rfl, rfl⟩
  case round =>
    rcases hrel with ⟨rfl, rfl⟩ | ⟨rfl, rfl⟩ | ⟨rfl, rfl⟩
    · go_wp2
      go_round
      case rel => exact .inr (.inl ⟨rfl, rfl⟩)
      case measure => simp [intOf]
    · go_wp2
      go_round
      case rel => exact .inr (.inr ⟨rfl, rfl⟩)
      case measure => simp [intOf]
    · clear hp0 hp1
      have hcast : ((xs.length : Int) + (ys.length : Int)) = ((xs.length + ys.length : Nat) : Int) := by omega
      rw [hcast]
      obtain ⟨L, hL⟩ : ∃ L, xs.length + ys.length = L := ⟨_, rfl⟩
      rw [hL]
      have hL1 : L ≤ 1000000 := by omega
      go_wp2_with (go_at_call 33; refine (grow_any L (by omega) _).mono ?_; rintro e w1 ⟨v1, rfl, ho1, hb1⟩; have HO1 := Aside0.mk ho1; have HB1 := Aside0.mk hb1; clear ho1 hb1; obtain ⟨Ag, cg, eg⟩ := Kd.R_slice HO1.out; subst eg)

      go_loopw [6, 27] (fun v6 v27 wr => Aside0 (Below w.heap.size w wr) ∧ ((v27 = .int .i64 0 ∧ Aside0 (Kd.R (Kd.raw 3) 26 wr w.heap.size (fun _ => True) v6 [])) ∨ (v27 = .int .i64 1 ∧ Aside0 (Kd.R (Kd.raw 3) 26 wr w.heap.size (fun _ => True) v6 xs)) ∨ (v27 = .int .i64 2 ∧ Aside0 (Kd.R (Kd.raw 3) 26 wr w.heap.size (fun _ => True) v6 (xs ++ ys))))) (fun _ v27 _ => 2 - (intOf v27).toNat)
      case atStart => exact ⟨HB1, .inl ⟨rfl, HO1⟩⟩
      case round =>
        obtain ⟨HBr, hrel⟩ := hrel
        have hq0 : wr.cell? ⟨b, 0, none⟩ = some (.slice A1 xs.length c1) := (HBr.out.cell (World.block_lt_of_cell? w _ HP0.out)).trans HP0.out
        have hq1 : wr.cell? ⟨b, 1, none⟩ = some (.slice A2 ys.length c2) := (HBr.out.cell (World.block_lt_of_cell? w _ HP1.out)).trans HP1.out
        rcases hrel with ⟨rfl, HOr⟩ | ⟨rfl, HOr⟩ | ⟨rfl, HOr⟩
        · obtain ⟨Ar, cr, er⟩ := Kd.R_slice HOr.out
          subst er
          go_wp2_with ((with_reducible refine gate_builtin (b := .append) (xs := #[.tmp 31, .tmp 32]) rfl ?_); at_builtin; refine Kd.R_append_rows (Kd.raw 3) (w0 := w) w.heap.size rfl (.tmp 31) (.tmp 32) 22 26 (.agg #[(.int .i64 0), (.slice none 0 0), (.bool false)]) 40 rfl Try.underlying22 info26 rfl (by decide) (by omega) (.slice Ar ([] : List (List Value)).length cr) [] xs _ _ _ (fun _ => True) (fun _ => False) rfl rfl ?aO ?aR (fun _ _ h => h) (fun _ h => h.elim) ?aF ?aB ?aS ?aL ?_; (case aR => exact (Kd.C_below HX.out HBr.out)); (case aB => exact HBr.out); (case aF => exact (fun _ _ => trivial)); (case aO => exact HOr.out); (case aS => exact (below_size HBr.out)); (case aL => have := HL.out; (try simp only [List.length_nil]); omega); intro v9 w9 ho hb hg hat; have HO9 := Aside0.mk ho; have HB9 := Aside0.mk hb; clear ho hb hg hat; obtain ⟨A9, c9, e9⟩ := Kd.R_slice HO9.out; subst e9)

          go_roundw
          case rel => exact ⟨HB9, .inr (.inl ⟨rfl, HO9⟩)⟩
          case measure => simp [intOf]
        · obtain ⟨Ar, cr, er⟩ := Kd.R_slice HOr.out
          subst er
          go_wp2_with ((with_reducible refine gate_builtin (b := .append) (xs := #[.tmp 31, .tmp 32]) rfl ?_); at_builtin; refine Kd.R_append_rows (Kd.raw 3) (w0 := w) w.heap.size rfl (.tmp 31) (.tmp 32) 22 26 (.agg #[(.int .i64 0), (.slice none 0 0), (.bool false)]) 40 rfl Try.underlying22 info26 rfl (by decide) (by omega) (.slice Ar xs.length cr) xs ys _ _ _ (fun _ => True) (fun _ => False) rfl rfl ?aO ?aR (fun _ _ h => h) (fun _ h => h.elim) ?aF ?aB ?aS ?aL ?_; (case aR => exact (Kd.C_below HY.out HBr.out)); (case aB => exact HBr.out); (case aF => exact (fun _ _ => trivial)); (case aO => exact HOr.out); (case aS => exact (below_size HBr.out)); (case aL => have := HL.out; (try simp only [List.length_nil]); omega); intro v9 w9 ho hb hg hat; have HO9 := Aside0.mk ho; have HB9 := Aside0.mk hb; clear ho hb hg hat; obtain ⟨A9, c9, e9⟩ := Kd.R_slice HO9.out; subst e9)
          go_roundw
          case rel => exact ⟨HB9, .inr (.inr ⟨rfl, by have := HO9; rw [show (xs ++ ys).length = L by rw [List.length_append]; exact hL] at this; exact this⟩)⟩
          case measure => simp [intOf]
        · go_wp2
          go_ret
          exact ⟨_, rfl, HOr.out, HBr.out⟩


/-- A row by its cells; and cells as a row. -/
theorem R_raws {α : Type} {d : Kd α} {e : Nat} {w : World} {base : Nat} {ok : Nat → Prop} {v : Value} {xs : List α} (h : d.R e w base ok v xs) :
    ∃ rows : List (List Value), rows.length = xs.length ∧ (Kd.raw d.sz).R e w base ok v rows ∧ ∀ (j : Nat) (x : α) (c : List Value), xs[j]? = some x → rows[j]? = some c → d.M w base (fun k => ok k ∧ some k ≠ v.ownBlock) x c := by
  obtain ⟨h0, inner, ho, hr⟩ := h
  refine ⟨Kd.chunks d.sz xs.length inner, Kd.chunks_length _ _ _, ⟨h0, inner, by rw [Kd.chunks_length]; exact ho, Kd.reps_raw hr (fun x c hp => ⟨d.K_len (d.K_of_M hp), d.K_one (d.K_of_M hp)⟩)⟩, fun j x c hx hc => ?_⟩
  rw [Kd.chunks_get hc]
  exact hr.2 j x hx
theorem R_of_raws {α : Type} {d : Kd α} {e : Nat} {w : World} {base base0 : Nat} {ok ok0 : Nat → Prop} {v : Value} {xs : List α} {rows : List (List Value)} (h : (Kd.raw d.sz).R e w base0 ok0 v rows) (hl : rows.length = xs.length) (hb : base ≤ base0)
    (hok : ∀ k, v.ownBlock = some k → ok k) (hM : ∀ (j : Nat) (x : α) (c : List Value), xs[j]? = some x → rows[j]? = some c → d.M w base (fun k => ok k ∧ some k ≠ v.ownBlock) x c) : d.R e w base ok v xs := by
  obtain ⟨_, inner, ho, hr⟩ := h
  refine ⟨hok, inner, by rw [← hl]; exact own_weaken ho hb, by rw [← hl]; exact hr.1, fun j x hx => ?_⟩
  have hj : j < rows.length := by rw [hl]; exact (List.getElem?_eq_some_iff.1 hx).1
  have h2 := (hr.2 j rows[j] (List.getElem?_eq_getElem hj)).1
  show d.M w base _ x ((inner.drop (j * d.sz)).take d.sz)
  rw [show (inner.drop (j * d.sz)).take d.sz = rows[j] from h2]
  exact hM j x _ hx (List.getElem?_eq_getElem hj)
end Go.Proofs.Ytoookgkhelcngaa.G
