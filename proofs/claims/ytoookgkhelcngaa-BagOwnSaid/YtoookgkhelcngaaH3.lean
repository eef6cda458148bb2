/- Own tells a bag in memory of its own. -/
import Derived.Test.YtoookgkhelcngaaH2
namespace Go.Proofs.Ytoookgkhelcngaa.G
open Go.RowKit Go.Proofs.YtoookgkhelcngaaW.PrintWords Go.Proofs.YtoookgkhelcngaaW.PrintLast Go.Proofs.YtoookgkhelcngaaW.PrintMore
open Go.Shelf
set_option linter.unusedVariables false
set_option linter.unusedSimpArgs false
attribute [local go_sem] Oper.semAt_some

theorem obj_far {W : World} {D : Nat} {o : Obj} (h : W.heap[D]? = some o) (b j : Nat) (u : Value) (hne : D ≠ b) : (W.setCell ⟨b, j, none⟩ u).heap[D]? = some o := (Below.heap_setCell W ⟨b, j, none⟩ u D hne).trans h
theorem cells_kept {W W' : World} {row : Option Nat} {b : Nat} {cs : Array Value} {t : TypeId} {f : Nat × Nat} (h : W.heap[b]? = some (.cells cs t f)) (hg : W.grownBy W' row) (hr : ∀ r, row = some r → ∃ o : Obj, W.heap[r]? = some o ∧ o.isCells = false) :
    W'.heap[b]? = some (.cells cs t f) := (hg.block b (Array.getElem?_eq_some_iff.1 h).1 (fun e => by
  obtain ⟨o, ho, hc⟩ := hr b e.symm
  rw [h] at ho; cases ho; cases hc)).trans h
theorem S_kept {α : Type} {d : Kd α} {e : Nat} {W W' : World} {base : Nat} {ok : Nat → Prop} {v : Value} {xs : List α} {row : Option Nat} (h : Kd.S d e W base ok v xs) (hg : W.grownBy W' row) (hr : ∀ r, row = some r → ∃ o : Obj, W.heap[r]? = some o ∧ o.isCells = false) :
    Kd.S d e W' base ok v xs := Kd.S_mono (Kd.S_grown (Kd.S_bound h) hg (fun k hk e => by
  obtain ⟨o, ho, hc⟩ := hr k e.symm
  obtain ⟨q, _, cells, h2⟩ := hk.2.2.2
  rw [h2] at ho; cases ho; cases hc)) (fun k hk => hk.1)
theorem R_kept {α : Type} {d : Kd α} {e : Nat} {W W' : World} {base : Nat} {ok : Nat → Prop} {v : Value} {xs : List α} {row : Option Nat} (h : Kd.R d e W base ok v xs) (hg : W.grownBy W' row) (hr : ∀ r, row = some r → ∃ o : Obj, W.heap[r]? = some o ∧ o.isCells = false) :
    Kd.R d e W' base ok v xs := Kd.R_mono (Kd.R_grown (Kd.R_bound h) hg (fun k hk e => by
  obtain ⟨o, ho, hc⟩ := hr k e.symm
  obtain ⟨q, _, cells, h2⟩ := hk.2.2.2
  rw [h2] at ho; cases ho; cases hc)) (fun k hk => hk.1)
theorem keeps_below {W W' : World} (h : Below W.heap.size W W') : KeepsOthers W W' := ⟨h.size, fun k o hk _ => (h.block k (Array.getElem?_eq_some_iff.1 hk).1).trans hk⟩
theorem keeps_grown {W W' : World} {row : Option Nat} (hg : W.grownBy W' row) (hr : ∀ r, row = some r → ∃ cs t f, W.heap[r]? = some (.cells cs t f)) : KeepsOthers W W' := ⟨hg.size, fun k o hk hc => (hg.block k (Array.getElem?_eq_some_iff.1 hk).1 (fun e => by
  obtain ⟨cs, t, f, h⟩ := hr k e.symm
  rw [hk] at h; cases h; cases hc)).trans hk⟩

def bag_Own.f (l : List S26) (n : Int) : Option (List S26 × Int) := if l.length ≤ 1000000000 ∧ l.all (fun x => decide (x.f1.length ≤ 140737488355328)) = true then some (l, n) else none
theorem own_fits {l : List S26} (h : l.length ≤ 1000000000 ∧ l.all (fun x => decide (x.f1.length ≤ 140737488355328)) = true) : Fits l := ⟨h.1, fun x hx => of_decide_eq_true (List.all_eq_true.mp h.2 x hx)⟩

theorem take_snoc (l : List S26) (i : Nat) (hi : i < l.length) : l.take i ++ [(⟨(rd_T26 l i).f0, (rd_T26 l i).f1, (rd_T26 l i).f2⟩ : S26)] = l.take (i + 1) := by
  have e : rd_T26 l i = l[i] := by simp [rd_T26, hi]
  rw [e, List.take_succ_eq_append_getElem hi]

/-- Between two rounds. -/
def OwnFix (w : World) (A : Option Addr) (m c : Nat) (n : Int) (W : World) : Prop :=
  Below w.heap.size w W ∧ W.heap[w.heap.size]? = some (.cells #[.slice A m c, .int .i64 n] 28 (0, 0)) ∧ W.heap[w.heap.size + 1]? = some (.cells #[.slice none 0 0, .int .i64 0] 28 (0, 0)) ∧ Boxed W (w.heap.size + 1 + 1 + 1) 22 (.slice A m c)
def OwnAt (w : World) (A : Option Addr) (c : Nat) (n : Int) (l : List S26) (k : Nat) (W : World) : Prop :=
  OwnFix w A l.length c n W ∧ ∃ v, Boxed W (w.heap.size + 1 + 1) 22 v ∧ Kd.S k26 26 W w.heap.size (fun _ => True) v (l.take k)
def OwnIn (w : World) (A : Option Addr) (c : Nat) (n : Int) (l : List S26) (k : Nat) (x : Array Value) (a' : Act) (W : World) : Prop :=
  ∃ B gb A1 c1 v, w.heap.size + 1 + 1 + 1 < B ∧ a' = { tmps := #[.agg #[.slice A l.length c, .int .i64 n], .pointer (some ⟨w.heap.size, 0, none⟩), .pointer (some ⟨w.heap.size + 1, 0, none⟩), .pointer (some ⟨w.heap.size + 1 + 1, 0, none⟩), undef, .pointer (some ⟨gb, 0, none⟩), .pointer (some ⟨w.heap.size, 0, none⟩), .slice A l.length c, .func (.func 31) #[] #[.pointer (some ⟨w.heap.size + 1 + 1 + 1, 0, none⟩)], .int .i64 (k : Int), .agg #[.int .i64 (rd_T26 l k).f0, .slice A1 (rd_T26 l k).f1.length c1, .bool (rd_T26 l k).f2], undef, undef, undef, undef, undef, undef, undef], defers := [] } ∧
    W.heap[gb]? = some (.cells #[.int .i64 (rd_T26 l k).f0, .slice A1 (rd_T26 l k).f1.length c1, .bool (rd_T26 l k).f2] 26 (0, 0)) ∧ (Kd.int .u8).R 5 W w.heap.size (fun q => B ≤ q) (.slice A1 (rd_T26 l k).f1.length c1) (rd_T26 l k).f1 ∧
    OwnFix w A l.length c n W ∧ Boxed W (w.heap.size + 1 + 1) 22 v ∧ Kd.S k26 26 W w.heap.size (fun q => q < B) v (l.take k)
theorem ownFix_kept {w : World} {A : Option Addr} {m c : Nat} {n : Int} {W W' : World} {row : Option Nat} (h : OwnFix w A m c n W) (hg : W.grownBy W' row) (hr : ∀ r, row = some r → w.heap.size ≤ r ∧ ∃ o : Obj, W.heap[r]? = some o ∧ o.isCells = false) : OwnFix w A m c n W' :=
  ⟨h.1.grown hg h.1.size (fun k e => (hr k e).1), cells_kept h.2.1 hg (fun r e => (hr r e).2), cells_kept h.2.2.1 hg (fun r e => (hr r e).2), cells_kept h.2.2.2 hg (fun r e => (hr r e).2)⟩

set_option maxRecDepth 100000 in
set_option maxHeartbeats 8000000 in
theorem Own_any (A : Option Addr) (c : Nat) (l : List S26) (n : Int) (w : World) (hx : Fits l) (hr : Kd.C k26 w A l.length l) (hc : l.length ≤ c) :
    Calls Try.prog 16 #[.agg #[.slice A l.length c, .int .i64 n]] w fun e w' => ∃ v0, e = .returned (.agg #[v0, .int .i64 n]) ∧ Kd.S k26 26 w' w.heap.size (fun _ => True) v0 l ∧ Below w.heap.size w w' := by
  refine (callsIn_wide (n := 4)).1 ?_
  refine callsIn_of_wp_marks Try.func16 rfl trivial ?_ rfl
  simp only [Try.ntmps16, List.size_toArray, List.length_cons, List.length_nil, Nat.reduceAdd, Nat.reduceSub, Array.replicate_succ, Array.replicate_zero, List.push_toArray, List.append_toArray, List.nil_append, List.cons_append]
  gi_wp2_with (refine ⟨trivial, ?_⟩; gi_at_call 21; refine (grams_any _ _ _ _ _).mono ?_; rintro e w' ⟨rfl, rfl⟩)
  obtain ⟨W4, hW4⟩ : ∃ W4, ((((w.alloc (Obj.cells #[Value.slice A l.length c, Value.int IntKind.i64 n] 28)).alloc (Obj.cells #[Value.slice none 0 0, Value.int IntKind.i64 0] 28)).alloc (Obj.cells #[Value.slice none 0 0] 22)).alloc (Obj.cells #[Value.slice A l.length c] 22)) = W4 := ⟨_, rfl⟩
  have hB4 : Below w.heap.size w W4 := by rw [← hW4]; exact below_alloc (below_alloc (below_alloc (below_alloc (Below.refl _ _) _) _) _) _
  have hs4 : W4.heap.size = w.heap.size + 4 := by rw [← hW4]; simp
  have hF4 : OwnFix w A l.length c n W4 := by
    refine ⟨hB4, ?_, ?_, ?_⟩
    · rw [← hW4]; exact blk_alloc (blk_alloc (blk_alloc (World.alloc_heap_new w _) _) _) _
    · rw [← hW4]; exact blk_alloc (blk_alloc (by have := World.alloc_heap_new (w.alloc (Obj.cells #[Value.slice A l.length c, Value.int IntKind.i64 n] 28)) (Obj.cells #[Value.slice none 0 0, Value.int IntKind.i64 0] 28); rwa [World.size_alloc] at this) _) _
    · rw [← hW4]; have := Boxed.new (((w.alloc (Obj.cells #[Value.slice A l.length c, Value.int IntKind.i64 n] 28)).alloc (Obj.cells #[Value.slice none 0 0, Value.int IntKind.i64 0] 28)).alloc (Obj.cells #[Value.slice none 0 0] 22)) 22 (Value.slice A l.length c); simpa using this
  have hL4 : Boxed W4 (w.heap.size + 1 + 1) 22 (.slice none 0 0) := by
    rw [← hW4]
    have := Boxed.new ((w.alloc (Obj.cells #[Value.slice A l.length c, Value.int IntKind.i64 n] 28)).alloc (Obj.cells #[Value.slice none 0 0, Value.int IntKind.i64 0] 28)) 22 (Value.slice none 0 0)
    simp only [World.size_alloc] at this
    exact this.alloc _
  rw [hW4]
  clear hW4
  have hlen := hx.1
  refine rangeFunc_I (by omega) (gf := 31) (lb := #[.pointer (some ⟨w.heap.size + 1 + 1 + 1, 0, none⟩)]) rfl (enters_of Try.func31 (by kernel_rfl) rfl) l.length (Px l) (fun i x B W h => h.size)
    (OwnAt w A c n l) ?hI ⟨hF4, _, hL4, by rw [List.take_zero]; exact Kd.S_nil _ _ _ _ _⟩
    (fun lo J W h0 hJb hJI hY => grams1_any _ (by omega) lo (w.heap.size + 1 + 1 + 1) w A c l hx hr hc J hJb (fun i W h => ⟨(hJI i W h).1.1, (hJI i W h).1.2.2.2⟩) hY W h0)
    (OwnIn w A c n l) ?hAx ?hassign ?hbody ?hdone
  case hI =>
    rintro k W W' row ⟨hF, v, hb, hS⟩ hg hrow
    exact ⟨ownFix_kept hF hg (fun r e => ⟨by have := (hrow r e).1; omega, (hrow r e).2⟩), v, cells_kept hb hg (fun r e => (hrow r e).2), S_kept hS hg (fun r e => (hrow r e).2)⟩
  case hAx =>
    rintro i x a' ⟨⟩ W W' row ⟨B, gb, A1, c1, v, hB, rfl, h1, h2, hF, hb, hS⟩ hg hrow
    exact ⟨B, gb, A1, c1, v, hB, rfl, cells_kept h1 hg (fun r e => (hrow r e).2), R_kept h2 hg (fun r e => (hrow r e).2), ownFix_kept hF hg (fun r e => ⟨by have := (hrow r e).1; omega, (hrow r e).2⟩), cells_kept hb hg (fun r e => (hrow r e).2), S_kept hS hg (fun r e => (hrow r e).2)⟩
  case hassign =>
    rintro lo i x W0 W K hi ⟨hF, v, hb, hS⟩ hbl ⟨A1, c1, rfl, hR⟩ hK
    have hs0 := hF.2.2.2.lt
    gi_wp2
    refine hK _ _ (keeps_below (below_alloc (Below.refl _ _) _)) ?_
    have hWW := hbl.alloc hbl.size (.cells #[.int .i64 (rd_T26 l i).f0, .slice A1 (rd_T26 l i).f1.length c1, .bool (rd_T26 l i).f2] 26)
    have hgr := grown_of_below hWW none
    refine ⟨W0.heap.size, W.heap.size, A1, c1, v, by omega, rfl, World.alloc_heap_new W _, ?_, ownFix_kept hF hgr (by simp), cells_kept hb hgr (by simp), Kd.S_mono (Kd.S_old hS hWW) (fun k hk => hk.2)⟩
    exact Kd.R_alloc (Kd.R_lower (Kd.R_mono (Kd.R_bound hR) (fun k hk => hk.2.1)) hF.1.size) _
  case hbody =>
    rintro lo i x a' W hi ⟨B, gb, A1, c1, v, hB, rfl, hbk, hR, hF, hb, hS⟩
    have hsn : l.take i ++ [(⟨(rd_T26 l i).f0, (rd_T26 l i).f1, (rd_T26 l i).f2⟩ : S26)] = l.take (i + 1) := take_snoc l i hi
    have hTl : (l.take i).length ≤ 1000000000 := by rw [List.length_take]; omega
    obtain ⟨X0, hX0⟩ : ∃ X0, (rd_T26 l i).f0 = X0 := ⟨_, rfl⟩
    obtain ⟨X1, hX1⟩ : ∃ X1, (rd_T26 l i).f1 = X1 := ⟨_, rfl⟩
    obtain ⟨X2, hX2⟩ : ∃ X2, (rd_T26 l i).f2 = X2 := ⟨_, rfl⟩
    obtain ⟨T, hT⟩ : ∃ T, l.take i = T := ⟨_, rfl⟩
    rw [hX0, hX1, hX2] at hbk hsn
    rw [hX1] at hR
    rw [hT] at hS hsn hTl
    rw [hX0, hX1, hX2]
    clear hX0 hX1 hX2 hT
    obtain ⟨Av, cv, rfl⟩ := Kd.S_slice hS
    have hlt := Kd.S_lt hS
    have hq0 : W.cell? ⟨gb, 0, none⟩ = some (.int .i64 X0) := (blk_cell hbk 0).trans rfl
    have hq1 : W.cell? ⟨gb, 1, none⟩ = some (.slice A1 X1.length c1) := (blk_cell hbk 1).trans rfl
    have hq2 : W.cell? ⟨gb, 2, none⟩ = some (.bool X2) := (blk_cell hbk 2).trans rfl
    have hqb := hb.cell
    have HR := Aside0.mk hR
    have HF := Aside0.mk hF
    have HBX := Aside0.mk hb
    have HS := Aside0.mk hS
    have HT := Aside0.mk hTl
    have HSN := Aside0.mk hsn
    clear hR hF hb hS hTl hsn hbk hlt
    refine wpIn_block ?_
    refine wpIn_region_lit ?_
    refine plainList (fun h => (by obtain ⟨_, _, h⟩ := h; cases h.1)) _ _ _ (noDefer_all rfl) ?_
    go_wp2_with ((with_reducible refine gate_builtin (b := .append) (xs := #[.tmp 11, .tmp 13]) rfl ?_); at_builtin; refine Stop.out ?_)
    refine ⟨?_⟩
    refine Kd.S_append k26 (w0 := w) w.heap.size rfl (.tmp 11) (.tmp 13) 22 26 (.agg #[(.int .i64 0), (.slice none 0 0), (.bool false)]) 40 rfl Try.underlying22 info26 rfl (by decide) (by omega) (.slice Av T.length cv) T (⟨X0, X1, X2⟩ : S26) [.int .i64 X0, .slice A1 X1.length c1, .bool X2] (fun _ => True) (fun q => B ≤ q) rfl rfl (k26_mkM _ _ _ (⟨X0, X1, X2⟩ : S26) HR.out) (fun q hq => ⟨trivial, fun e => by have := (Kd.S_R HS.out).1 q e.symm; omega⟩) (fun _ _ => trivial) (Kd.S_mono HS.out (fun q hq => ⟨trivial, by omega⟩)) HF.out.1 HF.out.1.size (by have := HT.out; omega) ?_
    intro v1 w1 ho hb1 hg hat
    obtain ⟨Ao, co, eo⟩ := Kd.S_slice ho
    subst eo
    have hbx1 : w1.heap[w.heap.size + 1 + 1]? = some (.cells #[.slice Av T.length cv] 22 (0, 0)) := blk_grown HBX.out hg (Kd.S_ne HS.out HBX.out (by decide))
    have hfb1 := blk_frozen hbx1 0
    have hqb1 : w1.cell? ⟨w.heap.size + 1 + 1, 0, none⟩ = some (.slice Av T.length cv) := (blk_cell hbx1 0).trans rfl
    have HO := Aside0.mk ho
    have HB1 := Aside0.mk hb1
    have HG := Aside0.mk hg
    have HBX1 := Aside0.mk hbx1
    clear ho hb1 hg hat hbx1
    go_wp2
    refine ⟨trivial, ?_, ?_⟩
    · exact (keeps_grown HG.out (fun r e => by obtain ⟨cells, h⟩ := Kd.S_typed HS.out r e; exact ⟨_, _, _, h⟩)).trans (KeepsOthers.setCell _ _ _)
    · have hO2 := Kd.S_types HO.out HBX1.out (by decide)
      have hs1 : w.heap.size + 1 + 1 + 1 < w1.heap.size := Nat.lt_of_lt_of_le HF.out.2.2.2.lt HG.out.size
      refine ⟨⟨HB1.out.setCell (p := ⟨w.heap.size + 1 + 1, 0, none⟩) (by show w.heap.size ≤ w.heap.size + 1 + 1; omega) _, ?_, ?_, ?_⟩, _, Boxed.set _ HBX1.out, ?_⟩
      · exact blk_far (blk_grown HF.out.2.1 HG.out (Kd.S_ne HS.out HF.out.2.1 (by decide))) (by show w.heap.size ≠ w.heap.size + 1 + 1; omega) _
      · exact blk_far (blk_grown HF.out.2.2.1 HG.out (Kd.S_ne HS.out HF.out.2.2.1 (by decide))) (by show w.heap.size + 1 ≠ w.heap.size + 1 + 1; omega) _
      · exact blk_far (blk_grown HF.out.2.2.2 HG.out (Kd.S_ne HS.out HF.out.2.2.2 (by decide))) (by show w.heap.size + 1 + 1 + 1 ≠ w.heap.size + 1 + 1; omega) _
      · have := Kd.S_mono (ok' := fun _ => True) (Kd.S_far (p := ⟨w.heap.size + 1 + 1, 0, none⟩) hO2 (fun k hk => hk.2) (.slice Ao (T ++ [(⟨X0, X1, X2⟩ : S26)]).length co)) (fun _ _ => trivial)
        rw [show (T ++ [(⟨X0, X1, X2⟩ : S26)]).length = T.length + 1 by simp, HSN.out] at this
        exact this
  case hdone =>
    rintro D W hD ⟨hF, v, hb, hS⟩ hK
    rw [List.take_length] at hS
    obtain ⟨Av, cv, rfl⟩ := Kd.S_slice hS
    have hq0 : W.cell? ⟨w.heap.size, 0, none⟩ = some (.slice A l.length c) := (blk_cell hF.2.1 0).trans rfl
    have hq1 : W.cell? ⟨w.heap.size, 1, none⟩ = some (.int .i64 n) := (blk_cell hF.2.1 1).trans rfl
    have hf0 := blk_frozen hF.2.1 0
    have hg0 := blk_frozen hF.2.2.1 0
    have hg1 := blk_frozen hF.2.2.1 1
    have hp0 : W.cell? ⟨w.heap.size + 1, 0, none⟩ = some (.slice none 0 0) := (blk_cell hF.2.2.1 0).trans rfl
    have hp1 : W.cell? ⟨w.heap.size + 1, 1, none⟩ = some (.int .i64 0) := (blk_cell hF.2.2.1 1).trans rfl
    have hqb := hb.cell
    have hne : w.heap.size ≠ w.heap.size + 1 := by omega
    have hne2 : w.heap.size + 1 ≠ w.heap.size := by omega
    have HF := Aside0.mk hF
    have HBX := Aside0.mk hb
    have HS := Aside0.mk hS
    have HK := Aside0.mk hK
    clear hF hb hS hK hr hc hx hB4 hF4 hL4
    dsimp only
    gi_wp2
    have hDs : w.heap.size + 4 ≤ D := by omega
    have hK3 : (((W.setCell ⟨w.heap.size, 0, none⟩ (.slice Av l.length cv)).setCell ⟨w.heap.size + 1, 0, none⟩ (.slice Av l.length cv)).setCell ⟨w.heap.size + 1, 1, none⟩ (.int .i64 n)).heap[D]? = some (.deferred (some [])) :=
      obj_far (obj_far (obj_far HK.out w.heap.size 0 _ (by omega)) (w.heap.size + 1) 0 _ (by omega)) (w.heap.size + 1) 1 _ (by omega)
    have hR3 : (((W.setCell ⟨w.heap.size, 0, none⟩ (.slice Av l.length cv)).setCell ⟨w.heap.size + 1, 0, none⟩ (.slice Av l.length cv)).setCell ⟨w.heap.size + 1, 1, none⟩ (.int .i64 n)).heap[w.heap.size + 1]? = some (.cells #[.slice Av l.length cv, .int .i64 n] 28 (0, 0)) :=
      blk_put (cs := #[.slice Av l.length cv, .int .i64 0]) (blk_put (cs := #[.slice none 0 0, .int .i64 0]) (blk_far HF.out.2.2.1 hne2 _) 0 _ rfl) 1 _ rfl
    have hS3 : Kd.S k26 26 (((W.setCell ⟨w.heap.size, 0, none⟩ (.slice Av l.length cv)).setCell ⟨w.heap.size + 1, 0, none⟩ (.slice Av l.length cv)).setCell ⟨w.heap.size + 1, 1, none⟩ (.int .i64 n)) w.heap.size (fun _ => True) (.slice Av l.length cv) l :=
      Kd.S_mono (Kd.S_far (p := ⟨w.heap.size + 1, 1, none⟩) (Kd.S_far (p := ⟨w.heap.size + 1, 0, none⟩) (Kd.S_far (p := ⟨w.heap.size, 0, none⟩) (Kd.S_types (Kd.S_types HS.out HF.out.2.1 (by decide)) HF.out.2.2.1 (by decide)) (fun k hk => hk.1.2) _) (fun k hk => hk.2) _) (fun k hk => hk.2) _) (fun _ _ => trivial)
    have hB3 : Below w.heap.size w (((W.setCell ⟨w.heap.size, 0, none⟩ (.slice Av l.length cv)).setCell ⟨w.heap.size + 1, 0, none⟩ (.slice Av l.length cv)).setCell ⟨w.heap.size + 1, 1, none⟩ (.int .i64 n)) :=
      ((HF.out.1.setCell (p := ⟨w.heap.size, 0, none⟩) (Nat.le_refl _) _).setCell (p := ⟨w.heap.size + 1, 0, none⟩) (by show w.heap.size ≤ w.heap.size + 1; omega) _).setCell (p := ⟨w.heap.size + 1, 1, none⟩) (by show w.heap.size ≤ w.heap.size + 1; omega) _
    refine ⟨by simp, .inl ⟨_, _, rfl, run_takeDeferred hK3, ?_⟩⟩
    exact ⟨_, results_cell_row rfl _ _ (w.heap.size + 1) 28 #[.slice Av l.length cv, .int .i64 n] (0, 0) _ rfl ((World.putObj_heap_other (by omega)).trans hR3) Try.underlying28 rfl (by kernel_rfl), _, rfl,
      S_kept hS3 (grownBy_putObj' _ D _) (fun r e => by cases e; exact ⟨_, hK3, rfl⟩), hB3.trans (belowK_b (w := w) (Nat.le_refl _) _ D _ _ (by omega) hK3 rfl rfl)⟩

theorem bag_Own.calls (A0_0 : Option Addr) (c0_0 : Nat) (l0_0 : List S26) (a0_1 : Int) (r1 : List S26) (r2 : Int) (w : World) (hr0_0 : Kd.C k26 w A0_0 l0_0.length l0_0) (hc0_0 : l0_0.length ≤ c0_0) (h : bag_Own.f l0_0 a0_1 = some (r1, r2)) :
    Calls Try.prog 16 #[.agg #[.slice A0_0 l0_0.length c0_0, .int .i64 a0_1]] w fun e w' => ∃ v0_ : Value, e = .returned (.agg #[v0_, .int .i64 r2]) ∧ Kd.S k26 26 w' w.heap.size (fun _ => True) v0_ r1 ∧ Below w.heap.size w w' := by
  unfold bag_Own.f at h
  by_cases hl : l0_0.length ≤ 1000000000 ∧ l0_0.all (fun x => decide (x.f1.length ≤ 140737488355328)) = true
  · rw [if_pos hl] at h
    obtain ⟨rfl, rfl⟩ := Prod.mk.inj (Option.some.inj h)
    exact Own_any A0_0 c0_0 l0_0 a0_1 w (own_fits hl) hr0_0 hc0_0
  · rw [if_neg hl] at h
    cases h
end Go.Proofs.Ytoookgkhelcngaa.G
