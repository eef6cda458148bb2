/- Send puts datagrams on their way: one that is too long, or for which there is no room, is lost. -/
import Derived.Test.YtoookgkhelcngaaH3
namespace Go.Proofs.Ytoookgkhelcngaa.G
open Go.RowKit Go.Proofs.YtoookgkhelcngaaW.PrintWords Go.Proofs.YtoookgkhelcngaaW.PrintLast Go.Proofs.YtoookgkhelcngaaW.PrintMore
open Go.Shelf
set_option linter.unusedVariables false
set_option linter.unusedSimpArgs false
attribute [local go_sem] Oper.semAt_some

def sendOne (st : List S26 × Int) (g : S26) : List S26 × Int := if st.1.length < 400 ∧ g.f1.length ≤ 120 then (st.1 ++ [g], st.2) else (st.1, wrap64 (st.2 + 1))
def sendAll (l : List S26) (n : Int) (m : List S26) : List S26 × Int := m.foldl sendOne (l, n)
def bag_Send.f (l : List S26) (n : Int) (m : List S26) : Option (List S26 × Int) :=
  if (l.length ≤ 1000000000 ∧ l.all (fun x => decide (x.f1.length ≤ 140737488355328)) = true) ∧ (m.length ≤ 1000000000 ∧ m.all (fun x => decide (x.f1.length ≤ 140737488355328)) = true) then some (sendAll l n m) else none
theorem sendAll_snoc (l : List S26) (n : Int) (m : List S26) (i : Nat) (hi : i < m.length) : sendAll l n (m.take (i + 1)) = sendOne (sendAll l n (m.take i)) (⟨(rd_T26 m i).f0, (rd_T26 m i).f1, (rd_T26 m i).f2⟩ : S26) := by
  rw [← take_snoc m i hi]
  unfold sendAll
  rw [List.foldl_append]
  rfl

/-- Between two rounds. -/
def SendFix (w : World) (Bs : Nat) (A : Option Addr) (m c : Nat) (W : World) : Prop :=
  Below w.heap.size w W ∧ W.heap[w.heap.size + 1]? = some (.cells #[.slice none 0 0, .int .i64 0] 28 (0, 0)) ∧ Boxed W Bs 22 (.slice A m c)
def SendAt (w : World) (Bs : Nat) (A : Option Addr) (c : Nat) (l : List S26) (n : Int) (m : List S26) (k : Nat) (W : World) : Prop :=
  SendFix w Bs A m.length c W ∧ ∃ v, W.heap[w.heap.size]? = some (.cells #[v, .int .i64 (sendAll l n (m.take k)).2] 28 (0, 0)) ∧ Kd.S k26 26 W w.heap.size (fun _ => True) v (sendAll l n (m.take k)).1
def SendIn (w : World) (Bs : Nat) (A : Option Addr) (c : Nat) (l : List S26) (n : Int) (m : List S26) (t0 t8 : Value) (k : Nat) (x : Array Value) (a' : Act) (W : World) : Prop :=
  ∃ B gb A1 c1 v, Bs < B ∧ a' = { tmps := #[t0, .slice A m.length c, .pointer (some ⟨w.heap.size, 0, none⟩), undef, .pointer (some ⟨w.heap.size + 1, 0, none⟩), undef, .pointer (some ⟨gb, 0, none⟩), t0, t8, .slice A m.length c, .func (.func 31) #[] #[.pointer (some ⟨Bs, 0, none⟩)], .int .i64 (k : Int), .agg #[.int .i64 (rd_T26 m k).f0, .slice A1 (rd_T26 m k).f1.length c1, .bool (rd_T26 m k).f2], undef, undef, undef, undef, undef, undef, undef, undef, undef, undef, undef, undef, undef, undef, undef, undef, undef, undef, undef, undef, undef], defers := [] } ∧
    W.heap[gb]? = some (.cells #[.int .i64 (rd_T26 m k).f0, .slice A1 (rd_T26 m k).f1.length c1, .bool (rd_T26 m k).f2] 26 (0, 0)) ∧ (Kd.int .u8).R 5 W w.heap.size (fun q => B ≤ q) (.slice A1 (rd_T26 m k).f1.length c1) (rd_T26 m k).f1 ∧
    SendFix w Bs A m.length c W ∧ W.heap[w.heap.size]? = some (.cells #[v, .int .i64 (sendAll l n (m.take k)).2] 28 (0, 0)) ∧ Kd.S k26 26 W w.heap.size (fun q => q < B) v (sendAll l n (m.take k)).1
theorem sendFix_kept {w : World} {Bs : Nat} {A : Option Addr} {m c : Nat} {W W' : World} {row : Option Nat} (h : SendFix w Bs A m c W) (hg : W.grownBy W' row) (hr : ∀ r, row = some r → w.heap.size ≤ r ∧ ∃ o : Obj, W.heap[r]? = some o ∧ o.isCells = false) : SendFix w Bs A m c W' :=
  ⟨h.1.grown hg h.1.size (fun k e => (hr k e).1), cells_kept h.2.1 hg (fun r e => (hr r e).2), cells_kept h.2.2 hg (fun r e => (hr r e).2)⟩

set_option maxRecDepth 100000 in
set_option maxHeartbeats 8000000 in
theorem Send_any (A : Option Addr) (c : Nat) (l : List S26) (n : Int) (A1 : Option Addr) (c1 : Nat) (m : List S26) (w : World) (hxl : l.length ≤ 1000000000 ∧ l.all (fun x => decide (x.f1.length ≤ 140737488355328)) = true) (hxm : Fits m)
    (hr : Kd.C k26 w A l.length l) (hc : l.length ≤ c) (hr1 : Kd.C k26 w A1 m.length m) (hc1 : m.length ≤ c1) :
    Calls Try.prog 7 #[.agg #[.slice A l.length c, .int .i64 n], .slice A1 m.length c1] w fun e w' => ∃ v0, e = .returned (.agg #[v0, .int .i64 (sendAll l n m).2]) ∧ Kd.S k26 26 w' w.heap.size (fun _ => True) v0 (sendAll l n m).1 ∧ Below w.heap.size w w' := by
  refine (callsIn_wide (n := 4)).1 ?_
  refine callsIn_of_wp_marks Try.func7 rfl trivial ?_ rfl
  simp only [Try.ntmps7, List.size_toArray, List.length_cons, List.length_nil, Nat.reduceAdd, Nat.reduceSub, Array.replicate_succ, Array.replicate_zero, List.push_toArray, List.append_toArray, List.nil_append, List.cons_append]
  have HR := Aside0.mk hr
  have HR1 := Aside0.mk hr1
  have HC := Aside0.mk hc
  have HXL := Aside0.mk hxl
  clear hr hr1 hc hxl
  gi_wp2_with (refine ⟨trivial, ?_⟩; gi_at_call 16; refine Stop.out ?_)
  refine ⟨?_⟩
  refine (callsIn_wide.2 (bag_Own.calls A c l n l n _ (Kd.C_below HR.out (below_alloc (below_alloc (Below.refl _ _) _) _)) HC.out (by unfold bag_Own.f; rw [if_pos HXL.out]))).mono ?_
  rintro e w1 ⟨v1, rfl, hS1, hb1⟩
  obtain ⟨Av, cv, rfl⟩ := Kd.S_slice hS1
  have hbA : w1.heap[w.heap.size]? = some (.cells #[.slice A l.length c, .int .i64 n] 28 (0, 0)) := (hb1.block _ (by simp; omega)).trans (blk_alloc (World.alloc_heap_new w _) _)
  have hbR : w1.heap[w.heap.size + 1]? = some (.cells #[.slice none 0 0, .int .i64 0] 28 (0, 0)) := (hb1.block _ (by simp)).trans (by have := World.alloc_heap_new (w.alloc (Obj.cells #[Value.slice A l.length c, Value.int IntKind.i64 n] 28)) (Obj.cells #[Value.slice none 0 0, Value.int IntKind.i64 0] 28); rwa [World.size_alloc] at this)
  have hBw : Below w.heap.size w w1 := (below_alloc (below_alloc (Below.refl _ w) _) _).trans (hb1.mono (by simp; omega))
  have hS2 : Kd.S k26 26 w1 w.heap.size (fun _ => True) (.slice Av l.length cv) l := Kd.S_lower hS1 (by simp; omega)
  have hq0 : w1.cell? ⟨w.heap.size, 0, none⟩ = some (.slice A l.length c) := (blk_cell hbA 0).trans rfl
  have hq1 : w1.cell? ⟨w.heap.size, 1, none⟩ = some (.int .i64 n) := (blk_cell hbA 1).trans rfl
  have hf0 := blk_frozen hbA 0
  have hf1 := blk_frozen hbA 1
  have HBA := Aside0.mk hbA
  have HBR := Aside0.mk hbR
  have HBW := Aside0.mk hBw
  have HS2 := Aside0.mk hS2
  clear hS1 hb1 hbA hbR hBw hS2
  dsimp only
  gi_wp2_with (refine ⟨trivial, ?_⟩; gi_at_call 21; refine (grams_any _ _ _ _ _).mono ?_; rintro e w' ⟨rfl, rfl⟩)
  have hs1 : w.heap.size + 2 ≤ w1.heap.size := by
    have := blk_lt HBR.out
    omega
  obtain ⟨W4, hW4⟩ : ∃ W4, (((w1.setCell { block := w.heap.size, off := 0 } (Value.slice Av l.length cv)).setCell { block := w.heap.size, off := 1 } (Value.int IntKind.i64 n)).alloc (Obj.cells #[Value.slice A1 m.length c1] 22)) = W4 := ⟨_, rfl⟩
  have hB4 : Below w.heap.size w W4 := by rw [← hW4]; exact below_alloc ((HBW.out.setCell (p := ⟨w.heap.size, 0, none⟩) (Nat.le_refl _) _).setCell (p := ⟨w.heap.size, 1, none⟩) (Nat.le_refl _) _) _
  have hs4 : W4.heap.size = w1.heap.size + 1 := by rw [← hW4]; simp
  have hF4 : SendFix w w1.heap.size A1 m.length c1 W4 := by
    refine ⟨hB4, ?_, ?_⟩
    · rw [← hW4]; exact blk_alloc (blk_far (blk_far HBR.out (by show w.heap.size + 1 ≠ w.heap.size; omega) _) (by show w.heap.size + 1 ≠ w.heap.size; omega) _) _
    · rw [← hW4]
      have := Boxed.new ((w1.setCell { block := w.heap.size, off := 0 } (Value.slice Av l.length cv)).setCell { block := w.heap.size, off := 1 } (Value.int IntKind.i64 n)) 22 (Value.slice A1 m.length c1)
      simpa using this
  have hL4 : W4.heap[w.heap.size]? = some (.cells #[.slice Av l.length cv, .int .i64 n] 28 (0, 0)) := by
    rw [← hW4]
    exact blk_alloc (blk_put (cs := #[.slice Av l.length cv, .int .i64 n]) (blk_put (cs := #[.slice A l.length c, .int .i64 n]) HBA.out 0 _ rfl) 1 _ rfl) _
  have hS4 : Kd.S k26 26 W4 w.heap.size (fun _ => True) (.slice Av l.length cv) l := by
    rw [← hW4]
    exact Kd.S_alloc (Kd.S_mono (Kd.S_far (p := ⟨w.heap.size, 1, none⟩) (Kd.S_far (p := ⟨w.heap.size, 0, none⟩) (Kd.S_types HS2.out HBA.out (by decide)) (fun k hk => hk.2) _) (fun k hk => hk.2) _) (fun _ _ => trivial)) _
  rw [hW4]
  clear hW4 hq0 hq1 hf0 hf1
  have hlen := hxm.1
  refine rangeFunc_I (by omega) (gf := 31) (lb := #[.pointer (some ⟨w1.heap.size, 0, none⟩)]) rfl (enters_of Try.func31 (by kernel_rfl) rfl) m.length (Px m) (fun i x B W h => h.size)
    (SendAt w w1.heap.size A1 c1 l n m) ?hI ⟨hF4, _, hL4, hS4⟩
    (fun lo J W h0 hJb hJI hY => grams1_any _ (by omega) lo w1.heap.size w A1 c1 m hxm HR1.out hc1 J hJb (fun i W h => ⟨(hJI i W h).1.1, (hJI i W h).1.2.2⟩) hY W h0)
    (SendIn w w1.heap.size A1 c1 l n m (.agg #[.slice A l.length c, .int .i64 n]) (.agg #[.slice Av l.length cv, .int .i64 n])) ?hAx ?hassign ?hbody ?hdone
  case hI =>
    rintro k W W' row ⟨hF, v, hb, hS⟩ hg hrow
    exact ⟨sendFix_kept hF hg (fun r e => ⟨by have := (hrow r e).1; omega, (hrow r e).2⟩), v, cells_kept hb hg (fun r e => (hrow r e).2), S_kept hS hg (fun r e => (hrow r e).2)⟩
  case hAx =>
    rintro i x a' ⟨⟩ W W' row ⟨B, gb, A1, c1, v, hB, rfl, h1, h2, hF, hb, hS⟩ hg hrow
    exact ⟨B, gb, A1, c1, v, hB, rfl, cells_kept h1 hg (fun r e => (hrow r e).2), R_kept h2 hg (fun r e => (hrow r e).2), sendFix_kept hF hg (fun r e => ⟨by have := (hrow r e).1; omega, (hrow r e).2⟩), cells_kept hb hg (fun r e => (hrow r e).2), S_kept hS hg (fun r e => (hrow r e).2)⟩
  case hassign =>
    rintro lo i x W0 W K hi ⟨hF, v, hb, hS⟩ hbl ⟨A1, c1, rfl, hR⟩ hK
    have hs0 := hF.2.2.lt
    gi_wp2
    refine hK _ _ (keeps_below (below_alloc (Below.refl _ _) _)) ?_
    have hWW := hbl.alloc hbl.size (.cells #[.int .i64 (rd_T26 m i).f0, .slice A1 (rd_T26 m i).f1.length c1, .bool (rd_T26 m i).f2] 26)
    have hgr := grown_of_below hWW none
    refine ⟨W0.heap.size, W.heap.size, A1, c1, v, by omega, rfl, World.alloc_heap_new W _, ?_, sendFix_kept hF hgr (by simp), cells_kept hb hgr (by simp), Kd.S_mono (Kd.S_old hS hWW) (fun k hk => hk.2)⟩
    exact Kd.R_alloc (Kd.R_lower (Kd.R_mono (Kd.R_bound hR) (fun k hk => hk.2.1)) hF.1.size) _
  case hbody =>
    rintro lo i x a' W hi ⟨B, gb, A2, c2, v, hB, rfl, hbk, hR, hF, hb, hS⟩
    have hsn := sendAll_snoc l n m i hi
    obtain ⟨X0, hX0⟩ : ∃ X0, (rd_T26 m i).f0 = X0 := ⟨_, rfl⟩
    obtain ⟨X1, hX1⟩ : ∃ X1, (rd_T26 m i).f1 = X1 := ⟨_, rfl⟩
    obtain ⟨X2, hX2⟩ : ∃ X2, (rd_T26 m i).f2 = X2 := ⟨_, rfl⟩
    obtain ⟨⟨T, N⟩, hT⟩ : ∃ T, sendAll l n (m.take i) = T := ⟨_, rfl⟩
    rw [hX0, hX1, hX2] at hbk hsn
    rw [hX1] at hR
    rw [hT] at hS hsn hb
    rw [hX0, hX1, hX2]
    clear hX0 hX1 hX2 hT
    dsimp only at hb hS
    obtain ⟨Av, cv, rfl⟩ := Kd.S_slice hS
    have hq0 : W.cell? ⟨gb, 0, none⟩ = some (.int .i64 X0) := (blk_cell hbk 0).trans rfl
    have hq1 : W.cell? ⟨gb, 1, none⟩ = some (.slice A2 X1.length c2) := (blk_cell hbk 1).trans rfl
    have hq2 : W.cell? ⟨gb, 2, none⟩ = some (.bool X2) := (blk_cell hbk 2).trans rfl
    have hb0 : W.cell? ⟨w.heap.size, 0, none⟩ = some (.slice Av T.length cv) := (blk_cell hb 0).trans rfl
    have hb1 : W.cell? ⟨w.heap.size, 1, none⟩ = some (.int .i64 N) := (blk_cell hb 1).trans rfl
    have hf0 := blk_frozen hb 0
    have hf1 := blk_frozen hb 1
    have HR := Aside0.mk hR
    have HF := Aside0.mk hF
    have HBX := Aside0.mk hb
    have HS := Aside0.mk hS
    have HSN := Aside0.mk hsn
    clear hR hF hb hS hsn hbk
    refine wpIn_block ?_
    by_cases h400 : T.length < 400
    · have h400a : ((T.length : Int) < 400) = True := eq_true (by omega)
      by_cases h120 : X1.length ≤ 120
      · have h120a : ((X1.length : Int) ≤ 120) = True := eq_true (by omega)
        have HE := Aside0.mk (show sendAll l n (m.take (i + 1)) = (T ++ [(⟨X0, X1, X2⟩ : S26)], N) by rw [HSN.out]; unfold sendOne; rw [if_pos ⟨h400, h120⟩])
        clear HSN
        refine wpIn_seq_k (fun K hK => ?_)
        have HK := Aside0.mk hK
        clear hK
        gi_wp2
        refine HK.out _ _ ?_
        refine wpIn_cond (t := true) rfl ?_
        rw [if_pos rfl]
        refine wpIn_region_lit ?_
        refine plainList (fun h => (by obtain ⟨_, _, h⟩ := h; cases h.1)) _ _ _ (noDefer_all rfl) ?_
        go_wp2_with ((with_reducible refine gate_builtin (b := .append) (xs := #[.tmp 24, .tmp 26]) rfl ?_); at_builtin; refine Stop.out ?_)
        refine ⟨?_⟩
        refine Kd.S_append k26 (w0 := w) w.heap.size rfl (.tmp 24) (.tmp 26) 22 26 (.agg #[(.int .i64 0), (.slice none 0 0), (.bool false)]) 40 rfl Try.underlying22 info26 rfl (by decide) (by omega) (.slice Av T.length cv) T (⟨X0, X1, X2⟩ : S26) [.int .i64 X0, .slice A2 X1.length c2, .bool X2] (fun _ => True) (fun q => B ≤ q) rfl rfl (k26_mkM _ _ _ (⟨X0, X1, X2⟩ : S26) HR.out) (fun q hq => ⟨trivial, fun e => by have := (Kd.S_R HS.out).1 q e.symm; omega⟩) (fun _ _ => trivial) (Kd.S_mono HS.out (fun q hq => ⟨trivial, by omega⟩)) HF.out.1 HF.out.1.size (by omega) ?_
        intro v3 w3 ho hb3 hg hat
        obtain ⟨Ao, co, eo⟩ := Kd.S_slice ho
        subst eo
        have hbx1 : w3.heap[w.heap.size]? = some (.cells #[.slice Av T.length cv, .int .i64 N] 28 (0, 0)) := blk_grown HBX.out hg (Kd.S_ne HS.out HBX.out (by decide))
        have hfb0 := blk_frozen hbx1 0
        have hqb0 : w3.cell? ⟨w.heap.size, 0, none⟩ = some (.slice Av T.length cv) := (blk_cell hbx1 0).trans rfl
        have HO := Aside0.mk ho
        have HB3 := Aside0.mk hb3
        have HG := Aside0.mk hg
        have HBX1 := Aside0.mk hbx1
        clear ho hb3 hg hat hbx1
        go_wp2
        refine ⟨trivial, ?_, ?_⟩
        · exact (keeps_grown HG.out (fun r e => by obtain ⟨cells, h⟩ := Kd.S_typed HS.out r e; exact ⟨_, _, _, h⟩)).trans (KeepsOthers.setCell _ _ _)
        · have hO2 := Kd.S_types HO.out HBX1.out (by decide)
          refine ⟨⟨HB3.out.setCell (p := ⟨w.heap.size, 0, none⟩) (Nat.le_refl _) _, ?_, ?_⟩, .slice Ao (T.length + 1) co, ?_, ?_⟩
          · exact blk_far (blk_grown HF.out.2.1 HG.out (Kd.S_ne HS.out HF.out.2.1 (by decide))) (by show w.heap.size + 1 ≠ w.heap.size; omega) _
          · exact blk_far (blk_grown HF.out.2.2 HG.out (Kd.S_ne HS.out HF.out.2.2 (by decide))) (by show w1.heap.size ≠ w.heap.size; omega) _
          · rw [HE.out]
            exact blk_put (cs := #[.slice Av T.length cv, .int .i64 N]) HBX1.out 0 _ rfl
          · have := Kd.S_mono (ok' := fun _ => True) (Kd.S_far (p := ⟨w.heap.size, 0, none⟩) hO2 (fun k hk => hk.2) (.slice Ao (T.length + 1) co)) (fun _ _ => trivial)
            rw [show (T ++ [(⟨X0, X1, X2⟩ : S26)]).length = T.length + 1 by simp] at this
            rw [HE.out]
            exact this
      · have h120a : ((X1.length : Int) ≤ 120) = False := eq_false (by omega)
        have HE := Aside0.mk (show sendAll l n (m.take (i + 1)) = (T, wrap64 (N + 1)) by rw [HSN.out]; unfold sendOne; rw [if_neg (fun h => h120 h.2)])
        clear HSN
        refine wpIn_seq_k (fun K hK => ?_)
        have HK := Aside0.mk hK
        clear hK
        gi_wp2
        refine HK.out _ _ ?_
        refine wpIn_cond (t := false) rfl ?_
        rw [if_neg (by decide)]
        gi_wp2
        refine ⟨trivial, KeepsOthers.setCell _ _ _, ⟨HF.out.1.setCell (p := ⟨w.heap.size, 1, none⟩) (Nat.le_refl _) _, blk_far HF.out.2.1 (by show w.heap.size + 1 ≠ w.heap.size; omega) _, blk_far HF.out.2.2 (by show w1.heap.size ≠ w.heap.size; omega) _⟩, .slice Av T.length cv, ?_, ?_⟩
        · rw [HE.out]
          exact blk_put (cs := #[.slice Av T.length cv, .int .i64 N]) HBX.out 1 _ rfl
        · rw [HE.out]
          exact Kd.S_mono (Kd.S_far (p := ⟨w.heap.size, 1, none⟩) (Kd.S_types HS.out HBX.out (by decide)) (fun k hk => hk.2) _) (fun _ _ => trivial)
    · have h400a : ((T.length : Int) < 400) = False := eq_false (by omega)
      have HE := Aside0.mk (show sendAll l n (m.take (i + 1)) = (T, wrap64 (N + 1)) by rw [HSN.out]; unfold sendOne; rw [if_neg (fun h => h400 h.1)])
      clear HSN
      refine wpIn_seq_k (fun K hK => ?_)
      have HK := Aside0.mk hK
      clear hK
      gi_wp2
      refine HK.out _ _ ?_
      refine wpIn_cond (t := false) rfl ?_
      rw [if_neg (by decide)]
      gi_wp2
      refine ⟨trivial, KeepsOthers.setCell _ _ _, ⟨HF.out.1.setCell (p := ⟨w.heap.size, 1, none⟩) (Nat.le_refl _) _, blk_far HF.out.2.1 (by show w.heap.size + 1 ≠ w.heap.size; omega) _, blk_far HF.out.2.2 (by show w1.heap.size ≠ w.heap.size; omega) _⟩, .slice Av T.length cv, ?_, ?_⟩
      · rw [HE.out]
        exact blk_put (cs := #[.slice Av T.length cv, .int .i64 N]) HBX.out 1 _ rfl
      · rw [HE.out]
        exact Kd.S_mono (Kd.S_far (p := ⟨w.heap.size, 1, none⟩) (Kd.S_types HS.out HBX.out (by decide)) (fun k hk => hk.2) _) (fun _ _ => trivial)
  case hdone =>
    rintro D W hD ⟨hF, v, hb, hS⟩ hK
    rw [List.take_length] at hb hS
    obtain ⟨⟨T, N⟩, hT⟩ : ∃ T, sendAll l n m = T := ⟨_, rfl⟩
    rw [hT] at hb hS
    have HT := Aside0.mk hT
    clear hT
    dsimp only at hb hS
    obtain ⟨Av, cv, rfl⟩ := Kd.S_slice hS
    have hq0 : W.cell? ⟨w.heap.size, 0, none⟩ = some (.slice Av T.length cv) := (blk_cell hb 0).trans rfl
    have hq1 : W.cell? ⟨w.heap.size, 1, none⟩ = some (.int .i64 N) := (blk_cell hb 1).trans rfl
    have hg0 := blk_frozen hF.2.1 0
    have hg1 := blk_frozen hF.2.1 1
    have hp0 : W.cell? ⟨w.heap.size + 1, 0, none⟩ = some (.slice none 0 0) := (blk_cell hF.2.1 0).trans rfl
    have hp1 : W.cell? ⟨w.heap.size + 1, 1, none⟩ = some (.int .i64 0) := (blk_cell hF.2.1 1).trans rfl
    have hne : w.heap.size ≠ w.heap.size + 1 := by omega
    have hne2 : w.heap.size + 1 ≠ w.heap.size := by omega
    have HF := Aside0.mk hF
    have HBX := Aside0.mk hb
    have HS := Aside0.mk hS
    have HK := Aside0.mk hK
    clear hF hb hS hK hB4 hF4 hL4 hS4
    dsimp only
    gi_wp2
    have hDs : w.heap.size + 3 ≤ D := by omega
    have hK3 : (((W.setCell ⟨w.heap.size + 1, 0, none⟩ (.slice Av T.length cv)).setCell ⟨w.heap.size + 1, 1, none⟩ (.int .i64 N))).heap[D]? = some (.deferred (some [])) :=
      obj_far (obj_far HK.out (w.heap.size + 1) 0 _ (by omega)) (w.heap.size + 1) 1 _ (by omega)
    have hR3 : ((W.setCell ⟨w.heap.size + 1, 0, none⟩ (.slice Av T.length cv)).setCell ⟨w.heap.size + 1, 1, none⟩ (.int .i64 N)).heap[w.heap.size + 1]? = some (.cells #[.slice Av T.length cv, .int .i64 N] 28 (0, 0)) :=
      blk_put (cs := #[.slice Av T.length cv, .int .i64 0]) (blk_put (cs := #[.slice none 0 0, .int .i64 0]) HF.out.2.1 0 _ rfl) 1 _ rfl
    have hS3 : Kd.S k26 26 ((W.setCell ⟨w.heap.size + 1, 0, none⟩ (.slice Av T.length cv)).setCell ⟨w.heap.size + 1, 1, none⟩ (.int .i64 N)) w.heap.size (fun _ => True) (.slice Av T.length cv) T :=
      Kd.S_mono (Kd.S_far (p := ⟨w.heap.size + 1, 1, none⟩) (Kd.S_far (p := ⟨w.heap.size + 1, 0, none⟩) (Kd.S_types HS.out HF.out.2.1 (by decide)) (fun k hk => hk.2) _) (fun k hk => hk.2) _) (fun _ _ => trivial)
    have hB3 : Below w.heap.size w ((W.setCell ⟨w.heap.size + 1, 0, none⟩ (.slice Av T.length cv)).setCell ⟨w.heap.size + 1, 1, none⟩ (.int .i64 N)) :=
      (HF.out.1.setCell (p := ⟨w.heap.size + 1, 0, none⟩) (by show w.heap.size ≤ w.heap.size + 1; omega) _).setCell (p := ⟨w.heap.size + 1, 1, none⟩) (by show w.heap.size ≤ w.heap.size + 1; omega) _
    refine ⟨by simp, .inl ⟨_, _, rfl, run_takeDeferred hK3, ?_⟩⟩
    rw [HT.out]
    exact ⟨_, results_cell_row rfl _ _ (w.heap.size + 1) 28 #[.slice Av T.length cv, .int .i64 N] (0, 0) _ rfl ((World.putObj_heap_other (by omega)).trans hR3) Try.underlying28 rfl (by kernel_rfl), _, rfl,
      S_kept hS3 (grownBy_putObj' _ D _) (fun r e => by cases e; exact ⟨_, hK3, rfl⟩), hB3.trans (belowK_b (w := w) (Nat.le_refl _) _ D _ _ (by omega) hK3 rfl rfl)⟩

theorem bag_Send.calls (A0_0 : Option Addr) (c0_0 : Nat) (l0_0 : List S26) (a0_1 : Int) (A1 : Option Addr) (c1 : Nat) (l1 : List S26) (r1 : List S26) (r2 : Int) (w : World) (hr0_0 : Kd.C k26 w A0_0 l0_0.length l0_0) (hc0_0 : l0_0.length ≤ c0_0) (hr1 : Kd.C k26 w A1 l1.length l1) (hc1 : l1.length ≤ c1) (h : bag_Send.f l0_0 a0_1 l1 = some (r1, r2)) :
    Calls Try.prog 7 #[.agg #[.slice A0_0 l0_0.length c0_0, .int .i64 a0_1], .slice A1 l1.length c1] w fun e w' => ∃ v0_ : Value, e = .returned (.agg #[v0_, .int .i64 r2]) ∧ Kd.S k26 26 w' w.heap.size (fun _ => True) v0_ r1 ∧ Below w.heap.size w w' := by
  unfold bag_Send.f at h
  by_cases hl : (l0_0.length ≤ 1000000000 ∧ l0_0.all (fun x => decide (x.f1.length ≤ 140737488355328)) = true) ∧ (l1.length ≤ 1000000000 ∧ l1.all (fun x => decide (x.f1.length ≤ 140737488355328)) = true)
  · rw [if_pos hl] at h
    have h2 := Option.some.inj h
    have := Send_any A0_0 c0_0 l0_0 a0_1 A1 c1 l1 w hl.1 (own_fits hl.2) hr0_0 hc0_0 hr1 hc1
    rw [h2] at this
    exact this
  · rw [if_neg hl] at h
    cases h
end Go.Proofs.Ytoookgkhelcngaa.G
