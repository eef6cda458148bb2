/- Slices that came in, of datagrams (or of deeds), as lists: what the row's reading tells of them. -/
import Derived.Test.YtoookgkhelcngaaG0
import Derived.WalkKit
import Derived.ProofKit
import Derived.OpenShut
import Derived.ShutString
import Derived.ChangeOld
import Derived.Below
import Derived.SizedLaws
import Derived.SliceStrings
import Derived.DataElems
namespace Go.Proofs.Ytoookgkhelcngaa.Open
open Go.ChangeShapes Go.WideShapes Go.ChangeAt Go.RowKit Go.Proofs.YtoookgkhelcngaaW.PrintWords
set_option linter.unusedVariables false
set_option linter.unusedSimpArgs false
section
variable {H : Type} {enc : TypeId × Value → H} {P : Program} {w : World} {base : Nat} {spare : Nat → Bool} {held : Bool}

/-- A slice each of whose elements is of a kind is a row of that kind. -/
theorem open_rows {α : Type} (d : Kd α) {t e : TypeId} {fuel : Nat} {cs : List Value} {x : DataW H × List MemPlace} (ht : P.underlying t = some (.slice e)) (hs : P.cellsOf e = d.sz)
    (hel : ∀ n cs y, DataW.trod enc P w base spare held n e cs = some y → cs.length = d.sz → ∃ z, d.K w z cs) (h : DataW.trod enc P w base spare held fuel t cs = some x) :
    ∃ A len cap, cs = [.slice A len cap] ∧ len ≤ cap ∧ cap ≤ maxLen ∧ ∃ xs : List α, xs.length = len ∧ d.C w A len xs := by
  rcases DataW.trod_slice ht h with ⟨h0, _⟩ | ⟨a, len, cap, elems, rest, n, _, rfl, _, hb, hl, hm, hlen, hE, _, _⟩
  · exact ⟨none, 0, 0, h0, Nat.le_refl _, by decide, [], rfl, rfl, by decide, fun h => absurd h (by decide)⟩
  · have each : ∀ i, i < len → ∃ z, ∃ c, c.length = d.sz ∧ d.K w z c ∧ ∀ k u, c[k]? = some u → w.cell? (a.add (i * d.sz + k)) = some u := by
      intro i hi
      have h1 := hE i hi
      rw [hs, List.getElem?_eq_getElem (by omega), Option.bind_eq_some_iff] at h1
      obtain ⟨c, hc, hy⟩ := h1
      obtain ⟨_, hcl, hcell⟩ := World.cells?_some hc
      obtain ⟨z, hz⟩ := hel _ _ _ hy hcl
      refine ⟨z, c, hcl, hz, fun k u hu => ?_⟩
      have := hcell k (by have := (List.getElem?_eq_some_iff.1 hu).1; omega)
      rw [hu] at this
      rw [← this, Go.Addr.add_add]
    have all : ∀ m, m ≤ len → ∃ xs : List α, xs.length = m ∧ ∀ j p, xs[j]? = some p → ∃ c, c.length = d.sz ∧ d.K w p c ∧ ∀ k u, c[k]? = some u → w.cell? (a.add (j * d.sz + k)) = some u := by
      intro m
      induction m with
      | zero => exact fun _ => ⟨[], rfl, fun j p h => by simp at h⟩
      | succ m ih =>
        intro hm'
        obtain ⟨xs, hx, hj⟩ := ih (by omega)
        obtain ⟨z, hz⟩ := each m (by omega)
        refine ⟨xs ++ [z], by simp [hx], fun j p h => ?_⟩
        rcases Nat.lt_trichotomy j m with h1 | h1 | h1
        · rw [List.getElem?_append_left (by omega)] at h
          exact hj j p h
        · subst h1
          rw [← hx, List.getElem?_concat_length] at h
          obtain rfl := Option.some.inj h
          exact hz
        · rw [List.getElem?_eq_none (by simp; omega)] at h
          simp at h
    obtain ⟨xs, hx, hj⟩ := all len (Nat.le_refl _)
    refine ⟨some a, len, cap, rfl, hl, hm, xs, hx, hx, by unfold maxLen at hm; omega, fun _ => ⟨a, rfl, hj⟩⟩
theorem of_int (k : IntKind) {e : TypeId} (he : P.underlying e = some (.int k)) {n : Nat} {cs : List Value} {y : DataW H × List MemPlace} (h : DataW.trod enc P w base spare held n e cs = some y) : ∃ z, (Kd.int k).K w z cs := by
  obtain ⟨z, rfl, _⟩ := DataW.trod_int he h
  exact ⟨z, rfl⟩
end
section
variable {H : Type} {enc : TypeId × Value → H} {w : World} {base : Nat} {spare : Nat → Bool} {held : Bool}
open Go.Proofs.Ytoookgkhelcngaa.G
theorem c3 : Try.prog.cellsOf 3 = 1 := by kernel_rfl
theorem c5 : Try.prog.cellsOf 5 = 1 := by kernel_rfl
theorem c4 : Try.prog.cellsOf 4 = 1 := by kernel_rfl
theorem c24 : Try.prog.cellsOf 24 = 1 := by kernel_rfl
theorem c26 : Try.prog.cellsOf 26 = 3 := by kernel_rfl
theorem c46 : Try.prog.cellsOf 46 = 7 := by kernel_rfl
theorem of_bytes {n : Nat} {cs : List Value} {y : DataW H × List MemPlace} (h : DataW.trod enc Try.prog w base spare held n 24 cs = some y) : ∃ z, (Kd.slice 5 (Kd.int .u8)).K w z cs := by
  obtain ⟨A, len, cap, rfl, hl, hm, xs, rfl, hC⟩ := open_rows (Kd.int .u8) Try.underlying24 c5 (fun n cs y h _ => of_int .u8 Try.underlying5 h) h
  exact ⟨xs, A, cap, rfl, hl, hC⟩
theorem of_gram {n : Nat} {cs : List Value} {y : DataW H × List MemPlace} (h : DataW.trod enc Try.prog w base spare held n 26 cs = some y) (hl : cs.length = k26.sz) : ∃ z, k26.K w z cs := by
  obtain ⟨xs, m, _, _, _, hx, hf⟩ := DataW.trod_struct Try.underlying26 h
  have g : ∀ i, i < 3 → ∃ z, xs[i]? = some z := fun i hi => ⟨xs[i]'(by rw [hx]; exact hi), List.getElem?_eq_getElem _⟩
  obtain ⟨y0, g0⟩ := g 0 (by decide)
  obtain ⟨y1, g1⟩ := g 1 (by decide)
  obtain ⟨y2, g2⟩ := g 2 (by decide)
  have h0 : DataW.trod enc Try.prog w base spare held m 3 ((cs.drop 0).take (Try.prog.cellsOf 3)) = xs[0]? := hf 0 _ rfl
  have h1 : DataW.trod enc Try.prog w base spare held m 24 ((cs.drop 1).take (Try.prog.cellsOf 24)) = xs[1]? := hf 1 _ rfl
  have h2 : DataW.trod enc Try.prog w base spare held m 4 ((cs.drop 2).take (Try.prog.cellsOf 4)) = xs[2]? := hf 2 _ rfl
  rw [g0, c3] at h0
  rw [g1, c24] at h1
  rw [g2, c4] at h2
  obtain ⟨z0, e0, _⟩ := DataW.trod_int Try.underlying3 h0
  obtain ⟨z1, e1⟩ := of_bytes h1
  obtain ⟨z2, e2, _⟩ := DataW.trod_bool Try.underlying4 h2
  have hc : cs = (cs.drop 0).take 1 ++ ((cs.drop 1).take 1 ++ (cs.drop 2).take 1) := by
    match cs, hl with
    | [a, b, c], _ => rfl
  rw [hc]
  exact ⟨⟨z0, z1, z2⟩, _, _, rfl, e0, _, _, rfl, e1, e2⟩
theorem of_deed {n : Nat} {cs : List Value} {y : DataW H × List MemPlace} (h : DataW.trod enc Try.prog w base spare held n 46 cs = some y) (hl : cs.length = k46.sz) : ∃ z, k46.K w z cs := by
  obtain ⟨xs, m, _, _, _, hx, hf⟩ := DataW.trod_struct Try.underlying46 h
  have g : ∀ i, i < 5 → ∃ z, xs[i]? = some z := fun i hi => ⟨xs[i]'(by rw [hx]; exact hi), List.getElem?_eq_getElem _⟩
  obtain ⟨y0, g0⟩ := g 0 (by decide)
  obtain ⟨y1, g1⟩ := g 1 (by decide)
  obtain ⟨y2, g2⟩ := g 2 (by decide)
  obtain ⟨y3, g3⟩ := g 3 (by decide)
  obtain ⟨y4, g4⟩ := g 4 (by decide)
  have h0 : DataW.trod enc Try.prog w base spare held m 3 ((cs.drop 0).take (Try.prog.cellsOf 3)) = xs[0]? := hf 0 _ rfl
  have h1 : DataW.trod enc Try.prog w base spare held m 3 ((cs.drop 1).take (Try.prog.cellsOf 3)) = xs[1]? := hf 1 _ rfl
  have h2 : DataW.trod enc Try.prog w base spare held m 3 ((cs.drop 2).take (Try.prog.cellsOf 3)) = xs[2]? := hf 2 _ rfl
  have h3 : DataW.trod enc Try.prog w base spare held m 5 ((cs.drop 3).take (Try.prog.cellsOf 5)) = xs[3]? := hf 3 _ rfl
  have h4 : DataW.trod enc Try.prog w base spare held m 26 ((cs.drop 4).take (Try.prog.cellsOf 26)) = xs[4]? := hf 4 _ rfl
  rw [g0, c3] at h0
  rw [g1, c3] at h1
  rw [g2, c3] at h2
  rw [g3, c5] at h3
  rw [g4, c26] at h4
  obtain ⟨z0, e0, _⟩ := DataW.trod_int Try.underlying3 h0
  obtain ⟨z1, e1, _⟩ := DataW.trod_int Try.underlying3 h1
  obtain ⟨z2, e2, _⟩ := DataW.trod_int Try.underlying3 h2
  obtain ⟨z3, e3, _⟩ := DataW.trod_int Try.underlying5 h3
  have hl7 : cs.length = 7 := hl
  obtain ⟨z4, e4⟩ := of_gram h4 (by simp [hl7]; rfl)
  have hc : cs = (cs.drop 0).take 1 ++ ((cs.drop 1).take 1 ++ ((cs.drop 2).take 1 ++ ((cs.drop 3).take 1 ++ (cs.drop 4).take 3))) := by
    match cs, hl with
    | [a, b, c, d, e, f, g], _ => rfl
  rw [hc]
  exact ⟨⟨z0, z1, z2, z3, z4⟩, _, _, rfl, e0, _, _, rfl, e1, _, _, rfl, e2, _, _, rfl, e3, e4⟩
theorem heap26 : Kd.Heap k26 := Kd.heap_iso _ (Kd.heap_pair (Kd.heap_int _) (Kd.heap_pair (Kd.heap_slice _ (Kd.heap_int _)) Kd.heap_bool))
theorem heap46 : Kd.Heap k46 := Kd.heap_iso _ (Kd.heap_pair (Kd.heap_int _) (Kd.heap_pair (Kd.heap_int _) (Kd.heap_pair (Kd.heap_int _) (Kd.heap_pair (Kd.heap_int _) heap26))))
/-- What is read stays while the world's blocks stay. -/
theorem row_V {α : Type} {d : Kd α} (hd : Kd.Heap d) {e c : Nat} {A : Option Addr} {xs : List α} (hl : xs.length ≤ c) (hC : d.C w A xs.length xs) : Kd.V d e w w.heap.size (fun _ => True) (.slice A xs.length c) xs :=
  ⟨A, c, rfl, hl, fun W' hW => hd.C (fun k hk => hW k trivial hk) hC⟩
end
end Go.Proofs.Ytoookgkhelcngaa.Open
