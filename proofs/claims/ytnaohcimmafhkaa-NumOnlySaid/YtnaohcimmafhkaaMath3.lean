/- Two rows of bytes are the same just if they are; bytes of arguments. -/
import Derived.Test.YtnaohcimmafhkaaMath2
namespace Go.Proofs.Ytnaohcimmafhkaa.Math
open Go.RowKit Go.Proofs.Ytnaohcimmafhkaa.G Go.Proofs.YtnaohcimmafhkaaW.PrintWords

theorem wrap64_small (x : Int) (h0 : -9223372036854775808 ≤ x) (h1 : x < 9223372036854775808) : wrap64 x = x := by unfold wrap64; omega
theorem strs_eq : ∀ (a b : List Int), Bytes a → Bytes b → ((strOfNums a).toList = (strOfNums b).toList ↔ a = b) := by
  intro a b ha hb
  rw [ByteArray.toList_eq, ByteArray.toList_eq, strOfNums_data, strOfNums_data]
  constructor
  · intro h
    apply List.ext_getElem
    · have := congrArg List.length h; simpa using this
    · intro i h1 h2
      have e := congrArg (fun l : List UInt8 => l[i]?) h
      simp only [List.getElem?_map, List.getElem?_eq_getElem h1, List.getElem?_eq_getElem h2, Option.map_some, Option.some.injEq] at e
      have e2 := congrArg UInt8.toNat e
      have hx := ha _ (List.getElem_mem h1)
      have hy := hb _ (List.getElem_mem h2)
      simp only [UInt8.toNat_ofNat'] at e2
      omega
  · intro h; rw [h]
theorem same_eq (a b : List Int) (ha : Bytes a) (hb : Bytes b) : garlandlaw01_same.f a b = some (decide (a = b)) := by
  unfold garlandlaw01_same.f
  congr 1
  rw [Bool.eq_iff_iff]
  simp [strs_eq a b ha hb]
theorem u8s {l : List Int} (h : ∀ x ∈ l, (Lit.int .u8 x).wf = true) : Bytes l := fun x hx => by
  have := h x hx
  simp [Lit.wf, IntKind.min, IntKind.max, IntKind.signed, IntKind.bits] at this
  omega
theorem i64_rng {a : Int} (h : (Lit.int .i64 a).wf = true) : -9223372036854775808 ≤ a ∧ a ≤ 9223372036854775807 := by
  simp [Lit.wf, IntKind.min, IntKind.max, IntKind.signed, IntKind.bits] at h; omega
theorem wakes_of (k : Nat) (h : 10 ≤ k) : garlandlaw01_wakes.f k = some true := by
  obtain ⟨j, rfl⟩ : ∃ j, k = j + 10 := ⟨k - 10, by omega⟩
  exact wakes_ge j
/-- Put, told at once. -/
theorem put_cases (a : Int) : (∃ N : Nat, a = (N : Int) ∧ N ≤ 1099511627776 ∧ num_Put.f a = some (enc N, 0)) ∨ ((a < 0 ∨ 1099511627776 < a) ∧ num_Put.f a = some ([], 2)) := by
  by_cases h : a < 0 ∨ 1099511627776 < a
  · exact .inr ⟨h, put_bad a h⟩
  · obtain ⟨N, rfl⟩ : ∃ N : Nat, a = (N : Int) := ⟨a.toNat, by omega⟩
    exact .inl ⟨N, rfl, by omega, put_ok N (by omega)⟩
end Go.Proofs.Ytnaohcimmafhkaa.Math
