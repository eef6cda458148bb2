/- For tells the places of the datagrams to one. -/
import Derived.Test.YtoookgkhelcngaaH4
namespace Go.Proofs.Ytoookgkhelcngaa.G
open Go.RowKit Go.Proofs.YtoookgkhelcngaaW.PrintWords Go.Proofs.YtoookgkhelcngaaW.PrintLast Go.Proofs.YtoookgkhelcngaaW.PrintMore
open Go.Shelf
set_option linter.unusedVariables false
set_option linter.unusedSimpArgs false
attribute [local go_sem] Oper.semAt_some

theorem info3 : (Try.prog.info? 3).map (fun i => (i.zero, i.size, i.bytes)) = some (some (.int .i64 0), 1, 8) := by kernel_rfl
def forTo (l : List S26) (tw : Int) (k : Nat) : List Int := ((List.range k).filter (fun (i : Nat) => (rd_T26 l (i : Int)).f0 == tw)).map (fun (i : Nat) => (i : Int))
theorem forTo_succ (l : List S26) (tw : Int) (k : Nat) : forTo l tw (k + 1) = forTo l tw k ++ (if (rd_T26 l (k : Int)).f0 = tw then [(k : Int)] else []) := by
  unfold forTo
  rw [List.range_succ, List.filter_append, List.map_append]
  by_cases h : (rd_T26 l (k : Int)).f0 = tw
  · simp [h]
  · simp [h]
theorem forTo_len (l : List S26) (tw : Int) (k : Nat) : (forTo l tw k).length ≤ k := by
  unfold forTo
  rw [List.length_map]
  exact Nat.le_trans (List.length_filter_le _ _) (by simp)
def bag_For.f (l : List S26) (n : Int) (tw : Int) : Option (List Int) := if l.length ≤ 1000000000 ∧ l.all (fun x => decide (x.f1.length ≤ 140737488355328)) = true then some (forTo l tw l.length) else none

theorem results_cell_slice {fn : Func} {p : Tmp} {ty e : TypeId} (h : fn.results = #[.cell p ty]) (tmps : Array Value) (w : World) (a : Addr) (v : Value) (hp : tmps.getD p undef = .pointer (some a)) (hc : w.cell? a = some v) (hu : Try.prog.underlying ty = some (.slice e)) :
    (results fn tmps).run Try.prog w = .ok v w := by
  have hp' : tmps[p]?.getD undef = .pointer (some a) := by simpa using hp
  have hagg : (isAgg ty).run Try.prog w = .ok false w := by
    unfold isAgg
    rw [Sem.run_bind, run_underlying hu w]
    simp
  simp [results, h, hp', asAddr, loadVar, hagg, load]
  simp [Sem.run, hc]

/-- Between two rounds. -/
def ForFix (w : World) (A : Option Addr) (m c : Nat) (tw : Int) (W : World) : Prop :=
  Below w.heap.size w W ∧ W.heap[w.heap.size + 1]? = some (.cells #[.int .i64 tw] 3 (0, 0)) ∧ Boxed W (w.heap.size + 1 + 1 + 1) 22 (.slice A m c)
def ForAt (w : World) (A : Option Addr) (c : Nat) (tw : Int) (l : List S26) (k : Nat) (W : World) : Prop :=
  ForFix w A l.length c tw W ∧ ∃ v, Boxed W (w.heap.size + 1 + 1) 49 v ∧ Kd.R (Kd.int .i64) 3 W w.heap.size (fun k => w.heap.size + 1 + 1 + 1 < k) v (forTo l tw k)
def ForIn (w : World) (A : Option Addr) (c : Nat) (n tw : Int) (l : List S26) (k : Nat) (x : Array Value) (a' : Act) (W : World) : Prop :=
  ∃ gb v5 A1 c1 v, w.heap.size + 1 + 1 + 1 < gb ∧ v5 = Value.int .i64 (k : Int) ∧ a' = { tmps := #[.agg #[.slice A l.length c, .int .i64 n], .int .i64 tw, .pointer (some ⟨w.heap.size, 0, none⟩), .pointer (some ⟨w.heap.size + 1, 0, none⟩), .pointer (some ⟨w.heap.size + 1 + 1, 0, none⟩), .int .i64 (k : Int), .pointer (some ⟨gb, 0, none⟩), .pointer (some ⟨w.heap.size, 0, none⟩), .slice A l.length c, .func (.func 31) #[] #[.pointer (some ⟨w.heap.size + 1 + 1 + 1, 0, none⟩)], .int .i64 (k : Int), .agg #[.int .i64 (rd_T26 l k).f0, .slice A1 (rd_T26 l k).f1.length c1, .bool (rd_T26 l k).f2], undef, undef, undef, undef, undef, undef, undef, undef, undef], defers := [] } ∧
    W.heap[gb]? = some (.cells #[.int .i64 (rd_T26 l k).f0, .slice A1 (rd_T26 l k).f1.length c1, .bool (rd_T26 l k).f2] 26 (0, 0)) ∧
    ForFix w A l.length c tw W ∧ Boxed W (w.heap.size + 1 + 1) 49 v ∧ Kd.R (Kd.int .i64) 3 W w.heap.size (fun k => w.heap.size + 1 + 1 + 1 < k) v (forTo l tw k)
theorem forFix_kept {w : World} {A : Option Addr} {m c : Nat} {tw : Int} {W W' : World} {row : Option Nat} (h : ForFix w A m c tw W) (hg : W.grownBy W' row) (hr : ∀ r, row = some r → w.heap.size ≤ r ∧ ∃ o : Obj, W.heap[r]? = some o ∧ o.isCells = false) : ForFix w A m c tw W' :=
  ⟨h.1.grown hg h.1.size (fun k e => (hr k e).1), cells_kept h.2.1 hg (fun r e => (hr r e).2), cells_kept h.2.2 hg (fun r e => (hr r e).2)⟩

set_option maxRecDepth 100000 in
set_option maxHeartbeats 8000000 in
theorem For_any (A : Option Addr) (c : Nat) (l : List S26) (n tw : Int) (w : World) (hx : Fits l) (hr : Kd.C k26 w A l.length l) (hc : l.length ≤ c) :
    Calls Try.prog 19 #[.agg #[.slice A l.length c, .int .i64 n], .int .i64 tw] w fun e w' => ∃ v0, e = .returned v0 ∧ Kd.R (Kd.int .i64) 3 w' w.heap.size (fun _ => True) v0 (forTo l tw l.length) ∧ Below w.heap.size w w' := by
  refine (callsIn_wide (n := 4)).1 ?_
  refine callsIn_of_wp_marks Try.func19 rfl trivial ?_ rfl
  simp only [Try.ntmps19, List.size_toArray, List.length_cons, List.length_nil, Nat.reduceAdd, Nat.reduceSub, Array.replicate_succ, Array.replicate_zero, List.push_toArray, List.append_toArray, List.nil_append, List.cons_append]
  gi_wp2_with (refine ⟨trivial, ?_⟩; gi_at_call 21; refine (grams_any _ _ _ _ _).mono ?_; rintro e w' ⟨rfl, rfl⟩)
  obtain ⟨W4, hW4⟩ : ∃ W4, ((((w.alloc (Obj.cells #[Value.slice A l.length c, Value.int IntKind.i64 n] 28)).alloc (Obj.cells #[Value.int IntKind.i64 tw] 3)).alloc (Obj.cells #[Value.slice none 0 0] 49)).alloc (Obj.cells #[Value.slice A l.length c] 22)) = W4 := ⟨_, rfl⟩
  have hB4 : Below w.heap.size w W4 := by rw [← hW4]; exact below_alloc (below_alloc (below_alloc (below_alloc (Below.refl _ _) _) _) _) _
  have hs4 : W4.heap.size = w.heap.size + 4 := by rw [← hW4]; simp
  have hF4 : ForFix w A l.length c tw W4 := by
    refine ⟨hB4, ?_, ?_⟩
    · rw [← hW4]; exact blk_alloc (blk_alloc (by have := World.alloc_heap_new (w.alloc (Obj.cells #[Value.slice A l.length c, Value.int IntKind.i64 n] 28)) (Obj.cells #[Value.int IntKind.i64 tw] 3); rwa [World.size_alloc] at this) _) _
    · rw [← hW4]; have := Boxed.new (((w.alloc (Obj.cells #[Value.slice A l.length c, Value.int IntKind.i64 n] 28)).alloc (Obj.cells #[Value.int IntKind.i64 tw] 3)).alloc (Obj.cells #[Value.slice none 0 0] 49)) 22 (Value.slice A l.length c); simpa using this
  have hL4 : Boxed W4 (w.heap.size + 1 + 1) 49 (.slice none 0 0) := by
    rw [← hW4]
    have := Boxed.new ((w.alloc (Obj.cells #[Value.slice A l.length c, Value.int IntKind.i64 n] 28)).alloc (Obj.cells #[Value.int IntKind.i64 tw] 3)) 49 (Value.slice none 0 0)
    simp only [World.size_alloc] at this
    exact this.alloc _
  rw [hW4]
  clear hW4
  have hlen := hx.1
  refine rangeFunc_I (by omega) (gf := 31) (lb := #[.pointer (some ⟨w.heap.size + 1 + 1 + 1, 0, none⟩)]) rfl (enters_of Try.func31 (by kernel_rfl) rfl) l.length (Px l) (fun i x B W h => h.size)
    (ForAt w A c tw l) ?hI ⟨hF4, _, hL4, show Kd.R (Kd.int .i64) 3 W4 w.heap.size (fun k => w.heap.size + 1 + 1 + 1 < k) (.slice none 0 0) [] from Kd.R_nil _ _ _ _ _⟩
    (fun lo J W h0 hJb hJI hY => grams1_any _ (by omega) lo (w.heap.size + 1 + 1 + 1) w A c l hx hr hc J hJb (fun i W h => ⟨(hJI i W h).1.1, (hJI i W h).1.2.2⟩) hY W h0)
    (ForIn w A c n tw l) ?hAx ?hassign ?hbody ?hdone
  case hI =>
    rintro k W W' row ⟨hF, v, hb, hS⟩ hg hrow
    exact ⟨forFix_kept hF hg (fun r e => ⟨by have := (hrow r e).1; omega, (hrow r e).2⟩), v, cells_kept hb hg (fun r e => (hrow r e).2), R_kept hS hg (fun r e => (hrow r e).2)⟩
  case hAx =>
    rintro i x a' ⟨⟩ W W' row ⟨gb, v5, A1, c1, v, hB, h5, rfl, h1, hF, hb, hS⟩ hg hrow
    exact ⟨gb, v5, A1, c1, v, hB, h5, rfl, cells_kept h1 hg (fun r e => (hrow r e).2), forFix_kept hF hg (fun r e => ⟨by have := (hrow r e).1; omega, (hrow r e).2⟩), cells_kept hb hg (fun r e => (hrow r e).2), R_kept hS hg (fun r e => (hrow r e).2)⟩
  case hassign =>
    rintro lo i x W0 W K hi ⟨hF, v, hb, hS⟩ hbl ⟨A1, c1, rfl, hR⟩ hK
    have hs0 := hF.2.2.lt
    gi_wp2
    refine hK _ _ (keeps_below (below_alloc (Below.refl _ _) _)) ?_
    have hWW := hbl.alloc hbl.size (.cells #[.int .i64 (rd_T26 l i).f0, .slice A1 (rd_T26 l i).f1.length c1, .bool (rd_T26 l i).f2] 26)
    have hgr := grown_of_below hWW none
    exact ⟨W.heap.size, _, A1, c1, v, by have := hbl.size; omega, rfl, rfl, World.alloc_heap_new W _, forFix_kept hF hgr (by simp), cells_kept hb hgr (by simp), R_kept hS hgr (by simp)⟩
  case hbody =>
    rintro lo i x a' W hi ⟨gb, v5, A1, c1, v, hB, h5, rfl, hbk, hF, hb, hS⟩
    have hsn := forTo_succ l tw i
    have hTl := forTo_len l tw i
    obtain ⟨X0, hX0⟩ : ∃ X0, (rd_T26 l i).f0 = X0 := ⟨_, rfl⟩
    obtain ⟨X1, hX1⟩ : ∃ X1, (rd_T26 l i).f1 = X1 := ⟨_, rfl⟩
    obtain ⟨X2, hX2⟩ : ∃ X2, (rd_T26 l i).f2 = X2 := ⟨_, rfl⟩
    obtain ⟨T, hT⟩ : ∃ T, forTo l tw i = T := ⟨_, rfl⟩
    rw [hX0] at hsn
    rw [hX0, hX1, hX2] at hbk
    rw [hT] at hS hsn hTl
    rw [hX0, hX1, hX2]
    clear hX0 hX1 hX2 hT h5
    obtain ⟨Av, cv, rfl⟩ := Kd.R_slice hS
    have hq0 : W.cell? ⟨gb, 0, none⟩ = some (.int .i64 X0) := (blk_cell hbk 0).trans rfl
    have hqt : W.cell? ⟨w.heap.size + 1, 0, none⟩ = some (.int .i64 tw) := (blk_cell hF.2.1 0).trans rfl
    have hqb := hb.cell
    have HF := Aside0.mk hF
    have HBX := Aside0.mk hb
    have HS := Aside0.mk hS
    have HSN := Aside0.mk hsn
    have HTL := Aside0.mk hTl
    clear hF hb hS hsn hbk hTl
    refine wpIn_block ?_
    refine wpIn_seq_k (fun K hK => ?_)
    have HK := Aside0.mk hK
    clear hK
    by_cases hto : X0 = tw
    · have hto1 : (X0 == tw) = true := beq_iff_eq.mpr hto
      have HE := Aside0.mk (show forTo l tw (i + 1) = T ++ [(i : Int)] by rw [HSN.out, if_pos hto])
      clear HSN
      gi_wp2
      refine HK.out _ _ ?_
      refine wpIn_cond (t := true) rfl ?_
      rw [if_pos rfl]
      refine wpIn_region_lit ?_
      refine plainList (fun h => (by obtain ⟨_, _, h⟩ := h; cases h.1)) _ _ _ (noDefer_all rfl) ?_
      go_wp2_with ((with_reducible refine gate_builtin (b := .append) (xs := #[.tmp 16, .tmp 18]) rfl ?_); at_builtin; refine Stop.out ?_)
      refine ⟨?_⟩
      refine Kd.R_append (Kd.int .i64) (w0 := w) w.heap.size rfl (.tmp 16) (.tmp 18) 49 3 (.int .i64 0) 8 rfl Try.underlying49 info3 rfl (by decide) (by omega) (.slice Av T.length cv) T (i : Int) [.int .i64 (i : Int)] (fun k => w.heap.size + 1 + 1 + 1 < k) (fun _ => False) rfl rfl (show Kd.M (Kd.int .i64) _ _ _ (i : Int) [.int .i64 (i : Int)] from rfl) (fun _ h => h.elim) (fun k hk => by have := HF.out.2.2.lt; omega) HS.out HF.out.1 HF.out.1.size (by have := HTL.out; omega) ?_
      intro v3 w3 ho hb3 hg hat
      obtain ⟨Ao, co, eo⟩ := Kd.R_slice ho
      subst eo
      have hbx1 : w3.heap[w.heap.size + 1 + 1]? = some (.cells #[.slice Av T.length cv] 49 (0, 0)) := blk_grown HBX.out hg (Kd.R_ne HS.out HBX.out (by decide))
      have hfb0 := blk_frozen hbx1 0
      have hqb0 : w3.cell? ⟨w.heap.size + 1 + 1, 0, none⟩ = some (.slice Av T.length cv) := (blk_cell hbx1 0).trans rfl
      have HO := Aside0.mk ho
      have HB3 := Aside0.mk hb3
      have HG := Aside0.mk hg
      have HBX1 := Aside0.mk hbx1
      clear ho hb3 hg hat hbx1
      go_wp2
      refine ⟨trivial, ?_, ?_⟩
      · exact (keeps_grown HG.out (fun r e => by obtain ⟨cells, h⟩ := Kd.R_typed HS.out r e; exact ⟨_, _, _, h⟩)).trans (KeepsOthers.setCell _ _ _)
      · refine ⟨⟨HB3.out.setCell (p := ⟨w.heap.size + 1 + 1, 0, none⟩) (by show w.heap.size ≤ w.heap.size + 1 + 1; omega) _, ?_, ?_⟩, _, Boxed.set _ HBX1.out, ?_⟩
        · exact blk_far (blk_grown HF.out.2.1 HG.out (fun e => by have := (HS.out).1 _ e.symm; omega)) (by show w.heap.size + 1 ≠ w.heap.size + 1 + 1; omega) _
        · exact blk_far (blk_grown HF.out.2.2 HG.out (Kd.R_ne HS.out HF.out.2.2 (by decide))) (by show w.heap.size + 1 + 1 + 1 ≠ w.heap.size + 1 + 1; omega) _
        · have := Kd.R_far (p := ⟨w.heap.size + 1 + 1, 0, none⟩) HO.out (fun k hk => by show k ≠ w.heap.size + 1 + 1; omega) (.slice Ao (T.length + 1) co)
          rw [show (T ++ [(i : Int)]).length = T.length + 1 by simp] at this
          rw [HE.out]
          exact this
    · have hto1 : (X0 == tw) = false := beq_eq_false_iff_ne.mpr hto
      have HE := Aside0.mk (show forTo l tw (i + 1) = T by rw [HSN.out, if_neg hto, List.append_nil])
      clear HSN
      gi_wp2
      refine HK.out _ _ ?_
      refine wpIn_cond (t := false) rfl ?_
      rw [if_neg (by decide)]
      gi_wp2
      exact ⟨trivial, KeepsOthers.refl _, HF.out, _, HBX.out, by rw [HE.out]; exact HS.out⟩
  case hdone =>
    rintro D W hD ⟨hF, v, hb, hS⟩ hK
    obtain ⟨T, hT⟩ : ∃ T, forTo l tw l.length = T := ⟨_, rfl⟩
    rw [hT] at hS
    have HT := Aside0.mk hT
    clear hT
    obtain ⟨Av, cv, rfl⟩ := Kd.R_slice hS
    have hqb := hb.cell
    have hfb := hb.frozen
    have HF := Aside0.mk hF
    have HBX := Aside0.mk hb
    have HS := Aside0.mk hS
    have HK := Aside0.mk hK
    clear hF hb hS hK hB4 hF4 hL4 hr hc hx
    dsimp only
    gi_wp2
    have hDs : w.heap.size + 4 ≤ D := by omega
    have hK3 : (W.setCell ⟨w.heap.size + 1 + 1, 0, none⟩ (.slice Av T.length cv)).heap[D]? = some (.deferred (some [])) := obj_far HK.out (w.heap.size + 1 + 1) 0 _ (by omega)
    have hR3 : Boxed (W.setCell ⟨w.heap.size + 1 + 1, 0, none⟩ (.slice Av T.length cv)) (w.heap.size + 1 + 1) 49 (.slice Av T.length cv) := Boxed.set _ HBX.out
    have hS3 := Kd.R_far (p := ⟨w.heap.size + 1 + 1, 0, none⟩) HS.out (fun k hk => by show k ≠ w.heap.size + 1 + 1; omega) (.slice Av T.length cv)
    have hB3 : Below w.heap.size w (W.setCell ⟨w.heap.size + 1 + 1, 0, none⟩ (.slice Av T.length cv)) := HF.out.1.setCell (p := ⟨w.heap.size + 1 + 1, 0, none⟩) (by show w.heap.size ≤ w.heap.size + 1 + 1; omega) _
    refine ⟨by simp, .inl ⟨_, _, rfl, run_takeDeferred hK3, ?_⟩⟩
    rw [HT.out]
    have hcell : ((W.setCell ⟨w.heap.size + 1 + 1, 0, none⟩ (.slice Av T.length cv)).putObj D (.deferred none)).cell? ⟨w.heap.size + 1 + 1, 0, none⟩ = some (.slice Av T.length cv) := (show Boxed _ _ 49 _ from (World.putObj_heap_other (by omega)).trans hR3).cell
    have hs5 : w.heap.size + 1 + 1 < W.heap.size := Nat.lt_trans (by omega) HF.out.2.2.lt
    refine ⟨_, results_cell_slice rfl _ _ ⟨w.heap.size + 1 + 1, 0, none⟩ (.slice Av T.length cv) rfl hcell Try.underlying49, _, rfl, Kd.R_mono (R_kept hS3 (grownBy_putObj' _ D _) (fun r e => by cases e; exact ⟨_, hK3, rfl⟩)) (fun _ _ => trivial), hB3.trans (belowK_b (w := w) (Nat.le_refl _) _ D _ _ (by omega) hK3 rfl rfl)⟩

theorem bag_For.calls (A0_0 : Option Addr) (c0_0 : Nat) (l0_0 : List S26) (a0_1 : Int) (a1 : Int) (r : List Int) (w : World) (hr0_0 : Kd.C k26 w A0_0 l0_0.length l0_0) (hc0_0 : l0_0.length ≤ c0_0) (h : bag_For.f l0_0 a0_1 a1 = some r) :
    Calls Try.prog 19 #[.agg #[.slice A0_0 l0_0.length c0_0, .int .i64 a0_1], .int .i64 a1] w fun e w' => ∃ v0_ : Value, e = .returned (v0_) ∧ Kd.R (Kd.int .i64) 3 w' w.heap.size (fun _ => True) v0_ r ∧ Below w.heap.size w w' := by
  unfold bag_For.f at h
  by_cases hl : l0_0.length ≤ 1000000000 ∧ l0_0.all (fun x => decide (x.f1.length ≤ 140737488355328)) = true
  · rw [if_pos hl] at h
    obtain rfl := Option.some.inj h
    exact For_any A0_0 c0_0 l0_0 a0_1 a1 w (own_fits hl) hr0_0 hc0_0
  · rw [if_neg hl] at h
    cases h
end Go.Proofs.Ytoookgkhelcngaa.G
