/- Texts and lists as bytes: what is put is taken. -/
import Derived.Test.YtnaohcimmafhkaaMath3
namespace Go.Proofs.Ytnaohcimmafhkaa.Math
open Go.RowKit Go.Proofs.Ytnaohcimmafhkaa.G Go.Proofs.YtnaohcimmafhkaaW.PrintWords

theorem bytesOf_bytes (s : ByteArray) : Bytes (bytesOf s) := fun x hx => by
  obtain ⟨b, _, rfl⟩ := List.mem_map.1 hx
  have := b.toNat_lt
  omega
theorem str_bytesOf (s : ByteArray) : strOfNums (bytesOf s) = s := by
  apply ByteArray.ext
  apply Array.toList_inj.1
  rw [strOfNums_data, bytesOf, List.map_map]
  have : (fun n : Int => UInt8.ofNat n.toNat) ∘ (fun b : UInt8 => (b.toNat : Int)) = id := by
    funext b
    simp
  rw [this, List.map_id]
theorem text_ok (s : ByteArray) (h : s.size < 256) : num_Text.f s = some ((s.size : Int) :: bytesOf s, 0) := by
  unfold num_Text.f
  rw [if_neg (by omega)]
theorem text_long (s : ByteArray) (h : 256 ≤ s.size) : num_Text.f s = some ([], 2) := by
  unfold num_Text.f
  rw [if_pos h]
theorem clone_ok (l : List Int) (h : l.length ≤ 140737488355328) : bytes_Clone.f l = some l := by
  unfold bytes_Clone.f
  rw [if_pos h]
/-- What TakeText tells where the first byte tells a text that is there. -/
theorem taketext_there (m : Nat) (t : List Int) (hm : m < 256) (h : m ≤ t.length) (hl : t.length ≤ 1000000000) : num_TakeText.f ((m : Int) :: t) = some (strOfNums (t.take m), t.drop m, 0) := by
  unfold num_TakeText.f
  have e0 : rd ((m : Int) :: t) 0 = (m : Int) := rfl
  have e1 : wrap64 (m : Int) = (m : Int) := wrap64_small _ (by omega) (by omega)
  have e2 : wrap64 (1 + (m : Int)) = ((m + 1 : Nat) : Int) := by rw [wrap64_small _ (by omega) (by omega)]; omega
  have e3 : wrap64 ((((m : Int) :: t).length : Int) - 1) = (t.length : Int) := by rw [List.length_cons, wrap64_small _ (by omega) (by omega)]; omega
  rw [e0, e1, e2, e3, List.length_cons, Int.toNat_natCast]
  rw [if_neg (by omega), if_pos (by omega), if_neg (by omega), if_pos (by omega), if_pos (by omega), if_pos (by omega), List.drop_succ_cons, clone_ok _ (by rw [List.length_drop]; omega)]
  rfl
theorem taketext_not (m : Int) (t : List Int) (hm : 0 ≤ m ∧ m < 256) (h : (t.length : Int) < m) (hl : t.length ≤ 1000000000) : num_TakeText.f (m :: t) = some (⟨#[]⟩, [], 11) := by
  unfold num_TakeText.f
  have e0 : rd (m :: t) 0 = m := rfl
  have e1 : wrap64 m = m := wrap64_small _ (by omega) (by omega)
  have e3 : wrap64 (((m :: t).length : Int) - 1) = (t.length : Int) := by rw [List.length_cons, wrap64_small _ (by omega) (by omega)]; omega
  rw [e0, e1, e3, List.length_cons, if_neg (by omega), if_pos (by omega), if_pos h]
theorem taketext_ok (s : ByteArray) (h : s.size < 256) (r : List Int) (hl : r.length ≤ 1000000) : num_TakeText.f (((s.size : Int) :: bytesOf s) ++ r) = some (s, r, 0) := by
  have hb := bytesOf_length s
  rw [List.cons_append, taketext_there s.size _ h (by rw [List.length_append]; omega) (by rw [List.length_append]; omega), List.take_left' hb, List.drop_left' hb, str_bytesOf]

/-! ### lists -/
def okN (x : Int) : Bool := decide (0 ≤ x) && decide (x ≤ 1099511627776)
def fineL (l : List Int) : Bool := l.all okN
/-- Each number's bytes, one behind the other. -/
def encs (l : List Int) : List Int := l.flatMap fun x => enc x.toNat
theorem encs_nil : encs [] = [] := rfl
theorem encs_cons (x : Int) (l : List Int) : encs (x :: l) = enc x.toNat ++ encs l := by simp [encs]
theorem encs_append (l m : List Int) : encs (l ++ m) = encs l ++ encs m := by simp [encs]
theorem okN_of {x : Int} (h : okN x = true) : 0 ≤ x ∧ x ≤ 1099511627776 := by simpa [okN] using h
theorem fineL_cons {x : Int} {l : List Int} : fineL (x :: l) = (okN x && fineL l) := by simp [fineL]
theorem encs_bytes : ∀ (l : List Int), fineL l = true → Bytes (encs l)
  | [], _ => Bytes.nil
  | x :: l, h => by
    rw [fineL_cons, Bool.and_eq_true] at h
    have := okN_of h.1
    rw [encs_cons]
    exact (enc_bytes _ (by omega)).append (encs_bytes l h.2)
theorem enc_len7 (N : Nat) (h : N ≤ 1099511627776) : (enc N).length ≤ 7 := by
  have : (low N).length ≤ 6 := low_len 6 N (by omega)
  rw [enc_len]; omega
theorem encs_len : ∀ (l : List Int), fineL l = true → (encs l).length ≤ 7 * l.length
  | [], _ => by simp [encs]
  | x :: l, h => by
    rw [fineL_cons, Bool.and_eq_true] at h
    have := okN_of h.1
    have h1 := enc_len7 x.toNat (by omega)
    have h2 := encs_len l h.2
    rw [encs_cons, List.length_append, List.length_cons]
    omega
theorem rd_drop (l : List Int) (i : Nat) (h : i < l.length) : l.drop i = rd l (i : Int) :: l.drop (i + 1) := by
  rw [List.drop_eq_getElem_cons h]
  simp [rd, h]
theorem put_ok' {x : Int} (h : okN x = true) : num_Put.f x = some (enc x.toNat, 0) := by
  have := okN_of h
  have h2 := put_ok x.toNat (by omega)
  rw [show ((x.toNat : Nat) : Int) = x by omega] at h2
  exact h2
theorem put_bad' {x : Int} (h : okN x = false) : num_Put.f x = some ([], 2) := by
  refine put_bad x ?_
  simp only [okN, Bool.and_eq_false_iff, decide_eq_false_iff_not] at h
  omega

theorem list_loop (l : List Int) (hl : l.length ≤ 1000) : ∀ (m i k : Nat) (acc : List Int), i + m = l.length → m < k → acc.length + 7 * m ≤ 1000000 →
    num_List.l0 k acc l (l.length : Int) (i : Int) = if fineL (l.drop i) = true then some (acc ++ encs (l.drop i), 0) else some ([], 2)
  | 0, i, k, acc, h1, h2, h3 => by
    obtain ⟨k, rfl⟩ : ∃ j, k = j + 1 := ⟨k - 1, by omega⟩
    rw [num_List.l0, if_neg (by omega), List.drop_of_length_le (by omega)]
    simp [fineL, encs]
  | m + 1, i, k, acc, h1, h2, h3 => by
    obtain ⟨k, rfl⟩ : ∃ j, k = j + 1 := ⟨k - 1, by omega⟩
    have hi : i < l.length := by omega
    rw [num_List.l0, if_pos (by omega), if_pos (by omega), if_pos (by omega), rd_drop l i hi, fineL_cons]
    cases hok : okN (rd l (i : Int)) with
    | false => rw [put_bad' hok]; simp
    | true =>
      have hr := okN_of hok
      have h7 := enc_len7 (rd l (i : Int)).toNat (by omega)
      rw [put_ok' hok]
      simp only [Option.bind_some, if_true, Bool.true_and]
      rw [if_pos (by omega), show wrap64 ((i : Int) + 1) = ((i + 1 : Nat) : Int) by rw [wrap64_small _ (by omega) (by omega)]; omega]
      rw [list_loop l hl m (i + 1) k _ (by omega) (by omega) (by rw [List.length_append]; omega), encs_cons, List.append_assoc]
theorem list_eq (l : List Int) (k : Nat) (hl : l.length < 256) (hk : l.length < k) : num_List.f k l = if fineL l = true then some ((l.length : Int) :: encs l, 0) else some ([], 2) := by
  unfold num_List.f
  rw [if_neg (by omega), if_pos (by simp)]
  have := list_loop l (by omega) l.length 0 k ([] ++ [(l.length : Int) % 256]) (by omega) hk (by simp; omega)
  rw [show ((0 : Nat) : Int) = 0 from rfl] at this
  rw [this, List.drop_zero, show (l.length : Int) % 256 = l.length by omega]
  rfl

theorem takelist_loop (l r : List Int) (hf : fineL l = true) (hl : l.length < 256) (hr : Bytes r) (hrl : r.length ≤ 1000000) : ∀ (m i k : Nat), i + m = l.length → m < k →
    num_TakeList.l0 k (l.take i) (encs (l.drop i) ++ r) (l.length : Int) (i : Int) = some (l, r, 0)
  | 0, i, k, h1, h2 => by
    obtain ⟨k, rfl⟩ : ∃ j, k = j + 1 := ⟨k - 1, by omega⟩
    rw [num_TakeList.l0, if_neg (by omega), List.drop_of_length_le (by omega), List.take_of_length_le (by omega)]
    rfl
  | m + 1, i, k, h1, h2 => by
    obtain ⟨k, rfl⟩ : ∃ j, k = j + 1 := ⟨k - 1, by omega⟩
    have hi : i < l.length := by omega
    have hfd : fineL (l.drop i) = true := by
      rw [fineL, List.all_eq_true] at hf ⊢
      exact fun x hx => hf x (List.mem_of_mem_drop hx)
    have hd := rd_drop l i hi
    rw [hd, fineL_cons, Bool.and_eq_true] at hfd
    have hr0 := okN_of hfd.1
    have hlen := encs_len _ hfd.2
    rw [List.length_drop] at hlen
    rw [num_TakeList.l0, if_pos (by omega), hd, encs_cons, List.append_assoc, take_ok _ (by omega) _ ((encs_bytes _ hfd.2).append hr) (by rw [List.length_append]; omega)]
    simp only [Option.bind_some, if_true]
    rw [if_pos (by rw [List.length_take]; omega), show (((i : Int) + 1) % 256) = ((i + 1 : Nat) : Int) by omega]
    have ht : l.take i ++ [((rd l (i : Int)).toNat : Int)] = l.take (i + 1) := by
      rw [List.take_add_one, List.getElem?_eq_getElem hi, show (((rd l (i : Int)).toNat : Nat) : Int) = rd l (i : Int) by omega]
      simp [rd, hi]
    rw [ht]
    exact takelist_loop l r hf hl hr hrl m (i + 1) k (by omega) (by omega)
theorem takelist_ok (l r : List Int) (hf : fineL l = true) (hl : l.length < 256) (hr : Bytes r) (hrl : r.length ≤ 1000000) (k : Nat) (hk : l.length < k) : num_TakeList.f k (((l.length : Int) :: encs l) ++ r) = some (l, r, 0) := by
  have h1 := encs_len l hf
  unfold num_TakeList.f
  rw [List.cons_append]
  have e0 : rd ((l.length : Int) :: (encs l ++ r)) 0 = (l.length : Int) := rfl
  rw [if_neg (by rw [List.length_cons]; omega), if_pos (by rw [List.length_cons]; omega), List.drop_succ_cons, List.drop_zero, clone_ok _ (by rw [List.length_append]; omega), e0]
  simp only [Option.bind_some]
  rw [if_pos (by rw [List.length_cons]; omega)]
  exact takelist_loop l r hf hl hr hrl l.length 0 k (by omega) hk

theorem ints_loop (l : List Int) (hl : l.length ≤ 1000) : ∀ (m i k : Nat), i + m = l.length → m < k → garlandref01_Ints.l0 k l l (i : Int) = some true
  | 0, i, k, h1, h2 => by
    obtain ⟨k, rfl⟩ : ∃ j, k = j + 1 := ⟨k - 1, by omega⟩
    rw [garlandref01_Ints.l0, if_neg (by omega)]
  | m + 1, i, k, h1, h2 => by
    obtain ⟨k, rfl⟩ : ∃ j, k = j + 1 := ⟨k - 1, by omega⟩
    rw [garlandref01_Ints.l0, if_pos (by omega), if_pos (by omega), if_pos (by omega), if_pos rfl, show wrap64 ((i : Int) + 1) = ((i + 1 : Nat) : Int) by rw [wrap64_small _ (by omega) (by omega)]; omega]
    exact ints_loop l hl m (i + 1) k (by omega) (by omega)
theorem ints_refl (l : List Int) (hl : l.length ≤ 1000) (k : Nat) (hk : l.length < k) : garlandref01_Ints.f k l l = some true := by
  unfold garlandref01_Ints.f
  rw [if_pos rfl]
  exact ints_loop l hl l.length 0 k (by omega) hk
end Go.Proofs.Ytnaohcimmafhkaa.Math
