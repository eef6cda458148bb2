/- BagOwn holds: what was handed in stays as it was, whatever becomes of what is told. -/
import Derived.Test.YtoookgkhelcngaaRows
import Derived.Test.YtoookgkhelcngaaPureOwn
import Derived.Test.YtoookgkhelcngaaOpen
namespace Go.Proofs.Ytoookgkhelcngaa.bagOwn
open Go.ChangeShapes Go.WideShapes Go.ChangeAt Go.RowKit Go.Proofs.YtoookgkhelcngaaW.PrintWords
set_option linter.unusedVariables false
set_option linter.unusedSimpArgs false
section
variable {H : Type} {enc : TypeId × Value → H} {w : World} {base : Nat} {spare : Nat → Bool} {held : Bool}
open Go.Proofs.Ytoookgkhelcngaa.G
theorem c22 : Try.prog.cellsOf 22 = 1 := by kernel_rfl
theorem c28 : Try.prog.cellsOf 28 = 2 := by kernel_rfl
/-- A bag that came in. -/
theorem of_bag {n : Nat} {cs : List Value} {y : DataW H × List MemPlace} (h : DataW.trod enc Try.prog w base spare held n 28 cs = some y) (hl : cs.length = 2) :
    ∃ A cap z, ∃ xs : List S26, cs = [.slice A xs.length cap, .int .i64 z] ∧ xs.length ≤ cap ∧ k26.C w A xs.length xs := by
  obtain ⟨xs, m, _, _, _, hx, hf⟩ := DataW.trod_struct Try.underlying28 h
  have g : ∀ i, i < 2 → ∃ z, xs[i]? = some z := fun i hi => ⟨xs[i]'(by rw [hx]; exact hi), List.getElem?_eq_getElem _⟩
  obtain ⟨y0, g0⟩ := g 0 (by decide)
  obtain ⟨y1, g1⟩ := g 1 (by decide)
  have h0 : DataW.trod enc Try.prog w base spare held m 22 ((cs.drop 0).take (Try.prog.cellsOf 22)) = xs[0]? := hf 0 _ rfl
  have h1 : DataW.trod enc Try.prog w base spare held m 3 ((cs.drop 1).take (Try.prog.cellsOf 3)) = xs[1]? := hf 1 _ rfl
  rw [g0, c22] at h0
  rw [g1, Open.c3] at h1
  obtain ⟨A, len, cap, e0, hc, _, zs, rfl, hC⟩ := Open.open_rows k26 Try.underlying22 Open.c26 (fun n cs y h hl => Open.of_gram h hl) h0
  obtain ⟨z1, e1, _⟩ := DataW.trod_int Try.underlying3 h1
  have hc2 : cs = (cs.drop 0).take 1 ++ (cs.drop 1).take 1 := by
    match cs, hl with
    | [a, b], _ => rfl
  refine ⟨A, cap, z1, zs, ?_, hc, hC⟩
  rw [hc2, e0, e1]
  rfl
end
theorem own : ownKnob Try.prog.godebug = none := by kernel_rfl
theorem laidOut : laidOutB Try.prog = true := by kernel_rfl
set_option maxRecDepth 100000 in
theorem lifted (os : Os) (started : os.Started) (H : Type) (enc : TypeId × Value → H) :
    ReturnsInHanded {} Try.checked os 4 .any (Rows.bagOwnSpec.pre6 enc Try.prog Try.f4 Rows.bagOwnRow.domain false) (Rows.bagOwnSpec.post enc Try.prog Try.f4 false true false false) := by
  refine returnsInHanded_of_change_sized (C := Try.checked) own started (by kernel_rfl) Try.func4
    (ChangeSpec.witness6 (enc := enc) (C := Try.checked) false ⟨#[], #[.agg #[.slice none 0 0, .int .i64 0], .agg #[.int .i64 0, .slice none 0 0, .bool false], .int .i64 0, .int .i64 0], []⟩ 8 (by kernel_rfl) (by kernel_rfl) (by kernel_rfl) (by kernel_rfl)) ?_
  intro W base args ds gs before hval0 hW hcnd hsz0 _
  have hval : ∀ (j : Nat) t v, Try.f4.params[j]? = some t → args[j]? = some v → Value.okWide Try.prog W .any base t v := hval0
  have hW' := hW
  obtain ⟨p, q, hA0, hV, rfl, hfz, hnd⟩ := hW
  have hA : DataW.TrodAll enc Try.prog W 0 (fun _ => true) true Try.f4.params.toList args.toList ds p := hA0
  rw [Try.params4] at hA hval
  obtain ⟨v0, vs0, d0, ds0, p0, q0, hargs, rfl, rfl, h0, r0⟩ := trodAll_cons hA
  obtain ⟨v1, vs1, d1, ds1, p1, q1, rfl, rfl, rfl, h1, r1⟩ := trodAll_cons r0
  obtain ⟨v2, vs2, d2, ds2, p2, q2, rfl, rfl, rfl, h2, r2⟩ := trodAll_cons r1
  obtain ⟨v3, vs3, d3, ds3, p3, q3, rfl, rfl, rfl, h3, r3⟩ := trodAll_cons r2
  obtain ⟨rfl, rfl, rfl⟩ := trodAll_nil r3
  obtain rfl : args = #[v0, v1, v2, v3] := by cases args; simp_all
  obtain ⟨rfl, rfl⟩ := trodVars_none hV
  obtain ⟨cs0, rfl, hz0⟩ := okWide_struct Try.underlying28 (hval 0 28 v0 rfl rfl)
  obtain ⟨cs1, rfl, hz1⟩ := okWide_struct Try.underlying26 (hval 1 26 v1 rfl rfl)
  obtain ⟨a2, rfl, rfl, rfl, w2⟩ := open_int Try.underlying3 (hval 2 3 v2 rfl rfl) h2
  obtain ⟨a3, rfl, rfl, rfl, w3⟩ := open_int Try.underlying3 (hval 3 3 v3 rfl rfl) h3
  rw [c28] at hz0
  rw [Open.c26] at hz1
  have k0 := h0
  have k1 := h1
  have lt0 : ∀ x ∈ p0, x.block < W.heap.size := by obtain ⟨m, hm⟩ := k0; exact DataW.trod_lt m _ _ _ hm
  have lt1 : ∀ x ∈ p1, x.block < W.heap.size := by obtain ⟨m, hm⟩ := k1; exact DataW.trod_lt m _ _ _ hm
  obtain ⟨m0, hm0⟩ := h0
  obtain ⟨m1, hm1⟩ := h1
  obtain ⟨A0, c0, n0, l0, e0, hc0, hr0⟩ := of_bag hm0 (show cs0.toList.length = 2 by simpa using hz0)
  obtain ⟨z1, hk1⟩ := Open.of_gram hm1 (show cs1.toList.length = 3 by simpa using hz1)
  obtain ⟨A1, c1, e1, hc1, hr1⟩ := G.k26_open hk1
  obtain rfl : cs0 = #[.slice A0 l0.length c0, .int .i64 n0] := by cases cs0; simpa [Value.cells] using e0
  obtain rfl : cs1 = #[.int .i64 z1.f0, .slice A1 z1.f1.length c1, .bool z1.f2] := by cases cs1; simpa [Value.cells] using e1
  clear hA0 hval0 hsz0
  refine (G.garlandlaw08_BagOwn.calls 200 A0 c0 l0 n0 z1.f0 (fun _ => True) A1 c1 z1.f1 z1.f2 a2 a3 true W hr0 hc0 (Open.row_V (Kd.heap_int _) hc1 hr1) (G.BagOwn_true l0 n0 z1.f0 z1.f1 z1.f2 a2 a3)).mono fun e W' ⟨he, bel⟩ => ?_
  subst he
  exact ⟨_, rfl, _, _, _, [], _, [], hW', trodAll_mk1 (shut_bool Try.underlying4 _), (trodAll_cons_mk (Below.trod laidOut (by kernel_rfl) (of_decide_eq_true (by kernel_rfl)) k0 bel lt0) (trodAll_cons_mk (Below.trod laidOut (by kernel_rfl) (of_decide_eq_true (by kernel_rfl)) k1 bel lt1) (trodAll_cons_mk (shut_int Try.underlying3 w2) (trodAll_cons_mk (shut_int Try.underlying3 w3) trodAll_mk0)))), rfl, bel.frame _, fun h => by cases h⟩
theorem over : Rows.bagOwnRow.holds Try.pinned (OpenSpec.ofChange Rows.bagOwnSpec) :=
  OpenClaim.holds_of_wide 4 Try.f4 rfl rfl rfl rfl rfl rfl rfl ⟨rfl, rfl, rfl, rfl, rfl⟩ rfl rfl rfl rfl rfl (by kernel_rfl) Try.func4 (by kernel_rfl)
    (of_decide_eq_true (by kernel_rfl)) (by unfold Func.isWrapper; first | (rw [if_pos (by decide +kernel)]; kernel_rfl) | (rw [if_neg (by decide +kernel)]; exact ⟨rfl, rfl⟩))
    (fun os started H enc _ => lifted os started H enc)
theorem proved : Rows.BagOwnSaid := over
end Go.Proofs.Ytoookgkhelcngaa.bagOwn
namespace Go.Proofs.Ytoookgkhelcngaa
/-- The row, under a short name, for the claim. -/
theorem bagOwn_holds : Rows.BagOwnSaid := bagOwn.proved
end Go.Proofs.Ytoookgkhelcngaa
