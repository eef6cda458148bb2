/- Plain facts: what going on by a whole key answers, a key's place, a row's places, for the program and for the document's own answer. -/
import Derived.Test.YtjnkgccabgiocaaMath
namespace Go.Proofs.Ytjnkgccabgiocaa.Math
open Go.RowKit Go.Proofs.Ytjnkgccabgiocaa.G Go.Proofs.YtjnkgccabgiocaaW.PrintWords Go.Proofs.YtjnkgccabgiocaaW.PrintLast
set_option linter.unusedSimpArgs false
set_option linter.unusedVariables false

/-- A text's bytes as numbers. -/
def nums (s : ByteArray) : List Int := s.data.toList.map (fun b => (b.toNat : Int))
theorem nums_len (s : ByteArray) : (nums s).length = s.size := by unfold nums; rw [List.length_map]; rfl
theorem bt_nums (s : ByteArray) (j : Nat) (h : j < s.size) : bt s (j : Int) = (nums s)[j]'(by rw [nums_len]; exact h) := by
  simp [bt, h, nums]; rfl
theorem upto_nums (s : ByteArray) : upto (fun j => bt s (j : Int)) s.size = nums s := by
  apply List.ext_getElem
  · rw [upto_length, nums_len]
  · intro i h1 h2
    have h : i < s.size := by rw [nums_len] at h2; exact h2
    rw [← bt_nums s i h]
    simp [upto]
theorem nums_range (s : ByteArray) : ∀ x ∈ nums s, 0 ≤ x ∧ x ≤ 255 := by
  intro x hx
  simp only [nums, List.mem_map] at hx
  obtain ⟨b, _, rfl⟩ := hx
  have := b.toNat_lt
  omega
theorem nums_append (a b : ByteArray) : nums (a ++ b) = nums a ++ nums b := by
  have e : (a ++ b).data.toList = a.data.toList ++ b.data.toList := by
    rw [ByteArray.data_append, Array.toList_append]
  unfold nums
  rw [e, List.map_append]
theorem nums_strOfNums (l : List Int) (h : ∀ x ∈ l, 0 ≤ x ∧ x ≤ 255) : nums (strOfNums l) = l := by
  unfold nums
  rw [strOfNums_data, List.map_map]
  conv => rhs; rw [← List.map_id l]
  apply List.map_congr_left
  intro x hx
  have := h x hx
  simp [UInt8.toNat_ofNat]
  omega
/-- From a on by the bytes l. -/
def goN (a : Int) (l : List Int) : Int := l.foldl nx (a % 65536)
theorem goI_eq (a : Int) (l : List Int) : goI a l = goN a l := by
  unfold goI goN
  rw [u16_wrap, wrap64_small _ (by omega) (by omega)]
  congr 1
  funext x y
  exact nextI_eq x y
theorem go_eq (a : Int) (s : ByteArray) (h : s.size ≤ 9223372036854775807) : mix_Go.f a s = some (goN a (nums s)) := by
  unfold mix_Go.f
  rw [if_pos h, upto_nums, goI_eq]
theorem goN_range (a : Int) (l : List Int) : 0 ≤ goN a l ∧ goN a l < 65536 := by
  unfold goN
  have : ∀ (l : List Int) (x : Int), 0 ≤ x ∧ x < 65536 → 0 ≤ l.foldl nx x ∧ l.foldl nx x < 65536 := by
    intro l
    induction l with
    | nil => intro x hx; exact hx
    | cons b l ih => intro x hx; exact ih _ (nx_range _ _)
  exact this l _ (by omega)
theorem goN_append (a : Int) (l m : List Int) : goN (goN a l) m = goN a (l ++ m) := by
  have h := goN_range a l
  show m.foldl nx (goN a l % 65536) = _
  rw [Int.emod_eq_of_lt h.1 h.2]
  simp [goN, List.foldl_append]
theorem goN_one (a b : Int) : goN a [b] = nx a b := by simp [goN, nx_mod]
end Go.Proofs.Ytjnkgccabgiocaa.Math
