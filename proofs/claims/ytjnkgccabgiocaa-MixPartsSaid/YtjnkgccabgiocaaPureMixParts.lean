/- A key's place is that of its parts, one behind the other; a row has each one's place, or the first error. -/
import Derived.Test.YtjnkgccabgiocaaG6
import Derived.Test.YtjnkgccabgiocaaMath3
namespace Go.Proofs.Ytjnkgccabgiocaa.Pure
open Go.RowKit Go.Proofs.Ytjnkgccabgiocaa.G Go.Proofs.Ytjnkgccabgiocaa.Math Go.Proofs.YtjnkgccabgiocaaW.PrintWords
set_option linter.unusedSimpArgs false

/-- Is it a key? -/
def gb (s : ByteArray) : Bool := decide (1 ≤ s.size ∧ s.size ≤ 20)
theorem keyOf_good {s : ByteArray} (h : gb s = true) : Math.keyOf s = (goN 7 (nums s), 0) := by
  have := of_decide_eq_true h
  unfold Math.keyOf
  rw [if_neg (by omega), if_neg (by omega)]
theorem keyOf_bad {s : ByteArray} (h : gb s = false) : Math.keyOf s = (0, 2) := by
  have := of_decide_eq_false h
  unfold Math.keyOf
  by_cases h0 : s.size = 0
  · rw [if_pos h0]
  · rw [if_neg h0, if_pos (by omega)]
theorem rowFrom_good (l : List ByteArray) : ∀ acc, l.all gb = true → rowFrom acc l = (acc ++ l.map (fun s => (Math.keyOf s).1), 0) := by
  induction l with
  | nil => intro acc _; simp [rowFrom]
  | cons s r ih =>
    intro acc h
    rw [List.all_cons, Bool.and_eq_true] at h
    simp only [rowFrom]
    rw [if_pos (by rw [keyOf_good h.1]), ih _ h.2]
    simp
theorem rowFrom_bad (l : List ByteArray) : ∀ acc, l.all gb = false → rowFrom acc l = ([], 2) := by
  induction l with
  | nil => intro acc h; simp at h
  | cons s r ih =>
    intro acc h
    simp only [rowFrom]
    by_cases hg : gb s = true
    · rw [List.all_cons, hg, Bool.true_and] at h
      rw [if_pos (by rw [keyOf_good hg]), ih _ h]
    · have hg := Bool.eq_false_iff.mpr hg
      rw [keyOf_bad hg]
      rw [if_neg (by decide)]
theorem l1_from (l : List ByteArray) (hl : l.length ≤ 20) (hg : l.all gb = true) (d : Nat) : ∀ (k : Nat) (i : Nat), i ≤ l.length → l.length - i = d → d + 20 < k →
    garlandlaw04_MixParts.l1 k l (l.map (fun s => (Math.keyOf s).1)) 0 (i : Int) = some true := by
  induction d with
  | zero =>
    intro k i hi hd hk
    obtain ⟨k, rfl⟩ : ∃ m, k = m + 1 := ⟨k - 1, by omega⟩
    simp only [garlandlaw04_MixParts.l1]
    rw [if_neg (by omega), if_pos trivial, if_pos (by simp), wakes_eq k (by omega)]
    rfl
  | succ d ih =>
    intro k i hi hd hk
    obtain ⟨k, rfl⟩ : ∃ m, k = m + 1 := ⟨k - 1, by omega⟩
    have hlt : i < l.length := by omega
    have hgi : gb l[i] = true := List.all_eq_true.mp hg _ (List.getElem_mem hlt)
    have hr : rd (l.map (fun s => (Math.keyOf s).1)) (i : Int) = (Math.keyOf l[i]).1 := by simp [rd, hlt]
    have h2 : (Math.keyOf l[i]).2 = 0 := by rw [keyOf_good hgi]
    simp only [garlandlaw04_MixParts.l1]
    rw [if_pos (by omega), if_pos (by omega), rdOf_get _ _ _ hlt, of_eq, Option.bind_some]
    rw [if_pos (by simp), if_pos h2, if_pos (by simp; omega), if_pos hr]
    rw [wrap64_small _ (by omega) (by omega), show (i : Int) + 1 = ((i + 1 : Nat) : Int) by omega]
    exact ih k (i + 1) (by omega) (by omega) (by omega)
theorem j2_eq (l : List ByteArray) (hl : l.length ≤ 20) (k : Nat) (hk : 50 < k) : garlandlaw04_MixParts.j2 k l (l.all gb) false = some true := by
  obtain ⟨k, rfl⟩ : ∃ m, k = m + 1 := ⟨k - 1, by omega⟩
  simp only [garlandlaw04_MixParts.j2]
  rw [if_neg (by decide), row_eq k l (by omega) (by omega), Option.bind_some]
  by_cases h : l.all gb = true
  · rw [h, if_pos rfl, rowFrom_good l [] h]
    exact l1_from l hl h l.length k 0 (by omega) (by omega) (by omega)
  · have h := Bool.eq_false_iff.mpr h
    rw [h, if_neg (by decide), rowFrom_bad l [] h]
    rw [if_pos rfl, if_pos (by simp), wakes_eq k (by omega)]
    rfl
theorem take_all (l : List ByteArray) (i : Nat) (h : i < l.length) : (l.take (i + 1)).all gb = ((l.take i).all gb && gb l[i]) := by
  rw [List.take_succ_eq_append_getElem h, List.all_append]
  simp
theorem l0_from (a b : ByteArray) (hab : a.size + b.size ≤ 20) (l : List ByteArray) (hl : l.length ≤ 20) (d : Nat) : ∀ (k : Nat) (i : Nat), i ≤ l.length → l.length - i = d → d + 60 < k →
    garlandlaw04_MixParts.l0 k a b l ((l.take i).all gb) (i : Int) = some true := by
  induction d with
  | zero =>
    intro k i hi hd hk
    obtain ⟨k, rfl⟩ : ∃ m, k = m + 1 := ⟨k - 1, by omega⟩
    have hj := j2_eq l hl k (by omega)
    have hs : (a ++ b).size = a.size + b.size := ByteArray.size_append
    have hw : wrap64 ((a.size : Int) + (b.size : Int)) = (a.size : Int) + (b.size : Int) := wrap64_small _ (by omega) (by omega)
    rw [List.take_of_length_le (by omega)]
    simp only [garlandlaw04_MixParts.l0]
    rw [if_neg (by omega), if_pos (by omega), of_eq, Option.bind_some, hw]
    by_cases h0 : a.size + b.size = 0
    · have e : Math.keyOf (a ++ b) = (0, 2) := by unfold Math.keyOf; rw [if_pos (by omega)]
      rw [e, decide_eq_false (by omega), if_neg (by decide), if_neg (by decide)]
      exact hj
    · have e : Math.keyOf (a ++ b) = (goN 7 (nums (a ++ b)), 0) := by unfold Math.keyOf; rw [if_neg (by omega), if_neg (by omega)]
      rw [e, decide_eq_true (by omega), if_neg (show ¬ (((0 : Int) == 0) != true) = true by decide), if_pos rfl]
      rw [go_eq 7 a (by omega), Option.bind_some, go_eq _ b (by omega), Option.bind_some, goN_append, Math.nums_append]
      have : (goN 7 (nums a ++ nums b) != goN 7 (nums a ++ nums b)) = false := by simp
      simp only [this]
      exact hj
  | succ d ih =>
    intro k i hi hd hk
    obtain ⟨k, rfl⟩ : ∃ m, k = m + 1 := ⟨k - 1, by omega⟩
    have hlt : i < l.length := by omega
    have hn := ih k (i + 1) (by omega) (by omega) (by omega)
    rw [take_all l i hlt] at hn
    have hw : wrap64 ((i : Int) + 1) = ((i + 1 : Nat) : Int) := by rw [wrap64_small _ (by omega) (by omega)]; omega
    simp only [garlandlaw04_MixParts.l0]
    rw [if_pos (by omega), if_pos (by omega), rdOf_get _ _ _ hlt]
    by_cases h100 : ((l[i].size : Nat) : Int) > 100
    · rw [if_pos h100, wakes_eq k (by omega)]; rfl
    · rw [if_neg h100, hw]
      by_cases hf : (l.take i).all gb = true
      · rw [hf, if_pos rfl]
        rw [hf, Bool.true_and] at hn
        by_cases h1 : ((l[i].size : Nat) : Int) ≥ 1
        · rw [if_pos h1]
          have : decide (((l[i].size : Nat) : Int) ≤ 20) = gb l[i] := by unfold gb; exact decide_eq_decide.mpr (by omega)
          rw [this]
          exact hn
        · rw [if_neg h1]
          have : gb l[i] = false := by unfold gb; exact decide_eq_false (by omega)
          rw [this] at hn
          exact hn
      · have hf := Bool.eq_false_iff.mpr hf
        rw [hf, if_neg (by decide)]
        rw [hf, Bool.false_and] at hn
        exact hn
theorem MixParts (a b : ByteArray) (ha : a.size ≤ 140737488351232) (hb : b.size ≤ 140737488351232) (l : List ByteArray) : ∃ k, garlandlaw04_MixParts.f k a b l = some true := by
  refine ⟨100, ?_⟩
  unfold garlandlaw04_MixParts.f
  obtain ⟨k, hk⟩ : ∃ k : Nat, k = 99 := ⟨_, rfl⟩
  have e : 100 = k + 1 := by omega
  rw [e]
  have hw : garlandlaw04_MixParts.j0 (k + 1) a b l true = some true := by
    simp only [garlandlaw04_MixParts.j0]
    rw [if_pos trivial, wakes_eq k (by omega)]; rfl
  rw [wrap64_small _ (by omega) (by omega)]
  by_cases hs : (a.size : Int) + (b.size : Int) > 20
  · rw [if_pos hs]; exact hw
  · rw [if_neg hs]
    by_cases h : (l.length : Int) > 20
    · rw [decide_eq_true h]; exact hw
    · rw [decide_eq_false h]
      simp only [garlandlaw04_MixParts.j0]
      rw [if_neg (by decide)]
      have := l0_from a b (by omega) l (by omega) l.length k 0 (by omega) (by omega) (by omega)
      simpa using this
theorem MixParts_walk (a0 a1 : ByteArray) (A2 : Option Addr) (c2 : Nat) (l2 : List ByteArray) (W : World) (w0 : a0.size ≤ 140737488351232) (w1 : a1.size ≤ 140737488351232) (hr2 : Kd.C Kd.string W A2 l2.length l2) (hc2 : l2.length ≤ c2) :
    Calls Try.prog 6 #[.string a0, .string a1, .slice A2 l2.length c2] W fun e w' => e = .returned (.bool true) ∧ Below W.heap.size W w' := by
  obtain ⟨k, h⟩ := MixParts a0 a1 w0 w1 l2
  exact garlandlaw04_MixParts.calls k a0 a1 A2 c2 l2 true W hr2 hc2 h
end Go.Proofs.Ytjnkgccabgiocaa.Pure
