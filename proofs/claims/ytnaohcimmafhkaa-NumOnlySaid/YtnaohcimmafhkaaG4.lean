/- What calls of the program's functions answer: contracts, printed by this session's program (wip/tools/gprint.py) or told by hand. -/
import Derived.Test.YtnaohcimmafhkaaG0
import Derived.Lib.AppendZeros
import Derived.Lib.ConvBytes
import Derived.Laws.BytesArg
import Derived.RangeFuncBox
import Derived.WalkSpells
import Derived.WalkMore
namespace Go.Proofs.Ytnaohcimmafhkaa.G
open Go.RowKit Go.Proofs.YtnaohcimmafhkaaW.PrintWords Go.Proofs.YtnaohcimmafhkaaW.PrintLast Go.Proofs.YtnaohcimmafhkaaW.PrintMore
attribute [local go_sem] max2_int min2_int max_two min_two max_three min_three max_four min_four   -- for this text's walks alone
set_option linter.unusedVariables false
set_option linter.unusedSimpArgs false

/-! ### num_Text: function 12 -/
set_option maxRecDepth 100000 in
set_option maxHeartbeats 8000000 in
theorem grow_nil (n : Nat) (h0 : 0 < n) (hn : n ≤ 1000000000) (w : World) :
    Calls Try.prog 29 #[.slice none 0 0, .int .i64 (n : Int)] w fun e w' => ∃ v, e = .returned v ∧ Kd.R (Kd.int .u8) 5 w' w.heap.size (fun _ => True) v [] ∧ Below w.heap.size w w' := by
  obtain ⟨i0, hi, hz0, hz1, hz2⟩ := info_parts info5
  have hrun := Lib.run_append_nil_zeros (P := Try.prog) w 23 3 23 5 i0 (.int .u8 0) .i64 .i64 Try.underlying23 Try.underlying3 hi hz0 n h0 (by omega) (by omega) (by rw [hz2]; omega)
  have hge := grownCap_ge w n 0 5
  have hle := grownCap_le_maxLen w n 0 5 (by unfold maxLen; omega)
  obtain ⟨C, hC⟩ : ∃ C, grownCap w n 0 5 = C := ⟨_, rfl⟩
  rw [hC] at hrun hge hle
  clear hC
  obtain ⟨cs, hcs⟩ : ∃ cs, Builtin.zeroCells (Value.int .u8 0).cells n ++ Builtin.zeroCells (Value.int .u8 0).cells (C - n) = cs := ⟨_, rfl⟩
  have hsz : cs.size = C * 1 := by rw [← hcs]; simp [Builtin.zeroCells, Value.cells]; omega
  rw [hcs] at hrun
  clear hcs
  have hB : Below w.heap.size w (w.drew.alloc (.cells cs 5)) := ((Below.refl w.heap.size w).drew).alloc (Nat.le_refl _) _
  have hR : Kd.R (Kd.int .u8) 5 (w.drew.alloc (.cells cs 5)) w.heap.size (fun _ => True) (.slice (some ⟨w.heap.size, 0, none⟩) 0 C) [] :=
    Kd.R_of_own (World.ownsRow_made (base := w.heap.size) (size := 1) w.drew cs C (Nat.le_refl _) hle hsz) (fun _ _ => trivial)
  have HR := Aside0.mk hR
  have HB := Aside0.mk hB
  clear hR hB
  go_enter Try.func29, Try.ntmps29
  go_wp2_with (at_builtin; refine Lib.wpList_append_run _ rfl _ _ _ _ rfl _ _ rfl rfl _ _ hrun ?_)
  go_ret
  exact ⟨_, rfl, HR.out, HB.out⟩

set_option maxRecDepth 100000 in
set_option maxHeartbeats 8000000 in
theorem concat2 (b cp : Nat) (A1 A2 : Option Addr) (c1 c2 : Nat) (xs ys : List Int) (w : World) (hp0 : w.cell? ⟨b, 0, none⟩ = some (.slice A1 xs.length c1)) (hp1 : w.cell? ⟨b, 1, none⟩ = some (.slice A2 ys.length c2))
    (hx : Kd.C (Kd.int .u8) w A1 xs.length xs) (hy : Kd.C (Kd.int .u8) w A2 ys.length ys) (hl : xs.length + ys.length ≤ 1000000) (h0 : 0 < xs.length) (hcp : 2 ≤ cp) :
    Calls Try.prog 26 #[.slice (some ⟨b, 0, none⟩) 2 cp] w fun e w' => ∃ v, e = .returned v ∧ Kd.R (Kd.int .u8) 5 w' w.heap.size (fun _ => True) v (xs ++ ys) ∧ Below w.heap.size w w' := by
  have HX := Aside0.mk hx
  have HY := Aside0.mk hy
  have HL := Aside0.mk hl
  have H0 := Aside0.mk h0
  have HP0 := Aside0.mk hp0
  have HP1 := Aside0.mk hp1
  clear hx hy
  go_enter Try.func26, Try.ntmps26
  go_wp2
  go_loop [3, 11] (fun v3 v11 => (v11 = .int .i64 0 ∧ v3 = .int .i64 0) ∨ (v11 = .int .i64 1 ∧ v3 = .int .i64 (xs.length : Int)) ∨ (v11 = .int .i64 2 ∧ v3 = .int .i64 ((xs.length : Int) + (ys.length : Int)))) (fun _ v11 => 2 - (intOf v11).toNat)
  case atStart => exact .inl ⟨rfl, rfl⟩
  case round =>
    rcases hrel with ⟨rfl, rfl⟩ | ⟨rfl, rfl⟩ | ⟨rfl, rfl⟩
    · go_wp2
      go_round
      case rel => exact .inr (.inl ⟨rfl, rfl⟩)
      case measure => simp [intOf]
    · go_wp2
      go_round
      case rel => exact .inr (.inr ⟨rfl, rfl⟩)
      case measure => simp [intOf]
    · clear hp0 hp1
      have hcast : ((xs.length : Int) + (ys.length : Int)) = ((xs.length + ys.length : Nat) : Int) := by omega
      rw [hcast]
      obtain ⟨L, hL⟩ : ∃ L, xs.length + ys.length = L := ⟨_, rfl⟩
      rw [hL]
      have hL0 : 0 < L := by omega
      have hL1 : L ≤ 1000000 := by omega
      go_wp2_with (go_at_call 29; refine (grow_nil L hL0 (by omega) _).mono ?_; rintro e w1 ⟨v1, rfl, ho1, hb1⟩; have HO1 := Aside0.mk ho1; have HB1 := Aside0.mk hb1; clear ho1 hb1; obtain ⟨Ag, cg, eg⟩ := Kd.R_slice HO1.out; subst eg)

      go_loopw [6, 27] (fun v6 v27 wr => Aside0 (Below w.heap.size w wr) ∧ ((v27 = .int .i64 0 ∧ Aside0 (Kd.R (Kd.int .u8) 5 wr w.heap.size (fun _ => True) v6 [])) ∨ (v27 = .int .i64 1 ∧ Aside0 (Kd.R (Kd.int .u8) 5 wr w.heap.size (fun _ => True) v6 xs)) ∨ (v27 = .int .i64 2 ∧ Aside0 (Kd.R (Kd.int .u8) 5 wr w.heap.size (fun _ => True) v6 (xs ++ ys))))) (fun _ v27 _ => 2 - (intOf v27).toNat)
      case atStart => exact ⟨HB1, .inl ⟨rfl, HO1⟩⟩
      case round =>
        obtain ⟨HBr, hrel⟩ := hrel
        have hq0 : wr.cell? ⟨b, 0, none⟩ = some (.slice A1 xs.length c1) := (HBr.out.cell (World.block_lt_of_cell? w _ HP0.out)).trans HP0.out
        have hq1 : wr.cell? ⟨b, 1, none⟩ = some (.slice A2 ys.length c2) := (HBr.out.cell (World.block_lt_of_cell? w _ HP1.out)).trans HP1.out
        rcases hrel with ⟨rfl, HOr⟩ | ⟨rfl, HOr⟩ | ⟨rfl, HOr⟩
        · obtain ⟨Ar, cr, er⟩ := Kd.R_slice HOr.out
          subst er
          go_wp2_with ((with_reducible refine gate_builtin (b := .append) (xs := #[.tmp 31, .tmp 32]) rfl ?_); at_builtin; refine Kd.R_append_rows (Kd.int .u8) (w0 := w) w.heap.size rfl (.tmp 31) (.tmp 32) 23 5 (.int .u8 0) 1 rfl Try.underlying23 info5 rfl (by decide) (by omega) (.slice Ar ([] : List Int).length cr) [] xs _ _ _ (fun _ => True) (fun _ => False) rfl rfl ?aO ?aR (fun _ _ h => h) (fun _ h => h.elim) ?aF ?aB ?aS ?aL ?_; (case aR => exact (Kd.C_below HX.out HBr.out)); (case aB => exact HBr.out); (case aF => exact (fun _ _ => trivial)); (case aO => exact HOr.out); (case aS => exact (below_size HBr.out)); (case aL => have := HL.out; (try simp only [List.length_nil]); omega); intro v9 w9 ho hb hg hat; have HO9 := Aside0.mk ho; have HB9 := Aside0.mk hb; clear ho hb hg hat; obtain ⟨A9, c9, e9⟩ := Kd.R_slice HO9.out; subst e9)

          go_roundw
          case rel => exact ⟨HB9, .inr (.inl ⟨rfl, HO9⟩)⟩
          case measure => simp [intOf]
        · obtain ⟨Ar, cr, er⟩ := Kd.R_slice HOr.out
          subst er
          go_wp2_with ((with_reducible refine gate_builtin (b := .append) (xs := #[.tmp 31, .tmp 32]) rfl ?_); at_builtin; refine Kd.R_append_rows (Kd.int .u8) (w0 := w) w.heap.size rfl (.tmp 31) (.tmp 32) 23 5 (.int .u8 0) 1 rfl Try.underlying23 info5 rfl (by decide) (by omega) (.slice Ar xs.length cr) xs ys _ _ _ (fun _ => True) (fun _ => False) rfl rfl ?aO ?aR (fun _ _ h => h) (fun _ h => h.elim) ?aF ?aB ?aS ?aL ?_; (case aR => exact (Kd.C_below HY.out HBr.out)); (case aB => exact HBr.out); (case aF => exact (fun _ _ => trivial)); (case aO => exact HOr.out); (case aS => exact (below_size HBr.out)); (case aL => have := HL.out; (try simp only [List.length_nil]); omega); intro v9 w9 ho hb hg hat; have HO9 := Aside0.mk ho; have HB9 := Aside0.mk hb; clear ho hb hg hat; obtain ⟨A9, c9, e9⟩ := Kd.R_slice HO9.out; subst e9)
          go_roundw
          case rel => exact ⟨HB9, .inr (.inr ⟨rfl, by have := HO9; rw [show (xs ++ ys).length = L by rw [List.length_append]; exact hL] at this; exact this⟩)⟩
          case measure => simp [intOf]
        · go_wp2
          go_ret
          exact ⟨_, rfl, HOr.out, HBr.out⟩

def num_Text.f (a0 : ByteArray) : Option (List Int × Int) := if 256 ≤ a0.size then some ([], 2) else some ((a0.size : Int) :: bytesOf a0, 0)

theorem below_bytesWorld (w : World) (e : TypeId) (s : ByteArray) : Below w.heap.size w (Lib.bytesWorld w e s) := bytes_below (Below.refl _ _) (Nat.le_refl _) e s

theorem text_cat (a0 : ByteArray) (h : a0.size < 256) (w W1 W2 W3 : World) (v1 v2 : Value) (hW1 : W1 = w.alloc (.cells #[.int .u8 (a0.size : Int)] 5)) (hW2 : W2 = Lib.bytesWorld W1 5 a0)
    (hv1 : v1 = .slice (some ⟨w.heap.size, 0, none⟩) 1 1) (hv2 : v2 = .slice (some ⟨w.heap.size + 1, 0, none⟩) a0.size (grownCap W1 a0.size 0 5)) (hW3 : W3 = W2.alloc (.cells #[v1, v2] 23)) :
    Calls Try.prog 26 #[.slice (some ⟨W2.heap.size, 0, none⟩) 2 2] W3 fun e w' => ∃ v, e = .returned v ∧ Kd.R (Kd.int .u8) 5 w' w.heap.size (fun _ => True) v ((a0.size : Int) :: bytesOf a0) ∧ Below w.heap.size w w' := by
  have hlen := bytesOf_length a0
  have hB1 : Below w.heap.size w W1 := by rw [hW1]; exact (Below.refl _ w).alloc (Nat.le_refl _) _
  have hB2 : Below W1.heap.size W1 W2 := by rw [hW2]; exact below_bytesWorld W1 5 a0
  have hB3 : Below W2.heap.size W2 W3 := by rw [hW3]; exact (Below.refl _ W2).alloc (Nat.le_refl _) _
  have hB : Below w.heap.size w W3 := (hB1.trans (hB2.mono hB1.size)).trans (hB3.mono (Nat.le_trans hB1.size hB2.size))
  have hx1 : Kd.C (Kd.int .u8) W1 (some ⟨w.heap.size, 0, none⟩) [(a0.size : Int)].length [(a0.size : Int)] := by
    rw [hW1]
    refine Kd.C_of_reads (h1 := fun _ => rfl) (d := 0) ⟨rfl, by simp, fun _ => ⟨_, rfl, fun j hj => ?_⟩⟩
    obtain rfl : j = 0 := by simp only [List.length_cons, List.length_nil] at hj; omega
    exact (Boxed.new w 5 (.int .u8 (a0.size : Int))).cell
  have hy1 : Kd.C (Kd.int .u8) W2 (some ⟨W1.heap.size, 0, none⟩) (bytesOf a0).length (bytesOf a0) := by
    rw [hW2, hlen]
    exact Kd.C_of_reads (h1 := fun _ => rfl) (bytes_reads W1 5 a0 (by omega))
  have hc := World.alloc_heap_new W2 (.cells #[v1, v2] 23)
  rw [← hW3] at hc
  have hp0 : W3.cell? ⟨W2.heap.size, 0, none⟩ = some v1 := by simp [World.cell?, hc]
  have hp1 : W3.cell? ⟨W2.heap.size, 1, none⟩ = some v2 := by simp [World.cell?, hc]
  rw [hv1] at hp0
  have hs1 : W1.heap.size = w.heap.size + 1 := by rw [hW1]; simp
  rw [hv2, ← hs1, ← hlen] at hp1
  refine (concat2 W2.heap.size 2 (some ⟨w.heap.size, 0, none⟩) (some ⟨W1.heap.size, 0, none⟩) 1 _ [(a0.size : Int)] (bytesOf a0) W3 hp0 hp1 (Kd.C_below (Kd.C_below hx1 hB2) hB3) (Kd.C_below hy1 hB3) (by simp only [List.length_cons, List.length_nil]; omega) (by simp) (by omega)).mono ?_
  rintro e w' ⟨v, rfl, hR, hb⟩
  exact ⟨v, rfl, Kd.R_lower hR hB.size, hB.trans (hb.mono hB.size)⟩

set_option maxRecDepth 100000 in
set_option maxHeartbeats 8000000 in
theorem num_Text.calls (a0 : ByteArray) (r1 : List Int) (r2 : Int) (w : World) (h : num_Text.f a0 = some (r1, r2)) :
    Calls Try.prog 12 #[.string a0] w fun e w' => ∃ v0_ : Value, e = .returned (.tuple #[v0_, .int .i64 r2]) ∧ Kd.R (Kd.int .u8) 5 w' w.heap.size (fun _ => True) v0_ r1 ∧ Below w.heap.size w w' := by
  unfold num_Text.f at h
  have HB := Aside0.mk (Below.refl w.heap.size w)
  by_cases hl : 256 ≤ a0.size
  · rw [if_pos hl] at h
    obtain ⟨rfl, rfl⟩ := Prod.mk.inj (Option.some.inj h)
    go_enter Try.func12, Try.ntmps12
    go_wp2
    go_ret2
    exact ⟨_, rfl, Kd.R_nil _ _ _ _ _, HB.out⟩
  · rw [if_neg hl] at h
    obtain ⟨rfl, rfl⟩ := Prod.mk.inj (Option.some.inj h)
    clear h
    have hcv := fun (W : World) => Lib.run_convert_string_bytes (P := Try.prog) W 9 23 5 a0 Try.underlying9 Try.underlying23 Try.underlying5
    have hcat := text_cat a0 (by omega) w _ _ _ _ _ rfl rfl rfl rfl rfl
    go_enter Try.func12, Try.ntmps12
    go_wp2_with (go_at_call 26; refine hcat.mono ?_; rintro e w1 ⟨v1, rfl, ho1, hb1⟩)
    go_ret2
    exact ⟨_, rfl, ho1, hb1⟩


end Go.Proofs.Ytnaohcimmafhkaa.G
