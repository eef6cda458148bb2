/- The document's own answers are those of the program. -/
import Derived.Test.YtnaohcimmafhkaaG12
import Derived.Test.YtnaohcimmafhkaaG11
import Derived.Test.YtnaohcimmafhkaaMath6
namespace Go.Proofs.Ytnaohcimmafhkaa.Math
open Go.RowKit Go.Proofs.Ytnaohcimmafhkaa.G Go.Proofs.YtnaohcimmafhkaaW.PrintWords

/-! ### numbers -/
theorem refput_loop : ∀ (j N k : Nat) (acc : List Int), N < 256 ^ j → N ≤ 1099511627776 → j < k → acc.length + j ≤ 100 →
    garlandref01_Put.l0 k (N : Int) acc = some ((((low N).length + acc.length : Nat) : Int) :: ((low N).reverse ++ acc), 0)
  | j, 0, k, acc, _, _, hk, hl => by
    obtain ⟨k, rfl⟩ : ∃ i, k = i + 1 := ⟨k - 1, by omega⟩
    rw [garlandref01_Put.l0, if_neg (by omega), Option.bind_some, if_pos (by simp; omega), low_zero]
    simp
    omega
  | 0, N + 1, k, acc, h, _, _, _ => by simp at h
  | j + 1, N + 1, k, acc, h, hN, hk, hl => by
    obtain ⟨k, rfl⟩ : ∃ i, k = i + 1 := ⟨k - 1, by omega⟩
    have e1 : Int.tmod ((N + 1 : Nat) : Int) 256 % 256 = ((N + 1 : Nat) : Int) % 256 := by rw [Int.tmod_eq_emod_of_nonneg (by omega)]; omega
    have e2 : wrap64 (Int.tdiv ((N + 1 : Nat) : Int) 256) = (((N + 1) / 256 : Nat) : Int) := by rw [Int.tdiv_eq_ediv_of_nonneg (by omega), wrap64_small _ (by omega) (by omega)]; omega
    rw [garlandref01_Put.l0, if_pos (by omega), e1, e2, Option.bind_some, if_pos (by simp; omega)]
    rw [refput_loop j ((N + 1) / 256) k _ (by rw [Nat.pow_succ] at h; omega) (by omega) (by omega) (by simp; omega), low_pos (N := N + 1) (by omega)]
    simp
    omega
theorem refput_ok (N k : Nat) (h : N ≤ 1099511627776) (hk : 10 ≤ k) : garlandref01_Put.f k (N : Int) = some (enc N, 0) := by
  obtain ⟨k, rfl⟩ : ∃ i, k = i + 1 := ⟨k - 1, by omega⟩
  unfold garlandref01_Put.f
  rw [if_neg (by omega), decide_eq_false (by omega), garlandref01_Put.j0, if_neg (by decide), refput_loop 6 N k [] (by omega) h (by omega) (by simp)]
  simp [enc]
theorem refput_bad (a : Int) (k : Nat) (h : a < 0 ∨ 1099511627776 < a) (hk : 10 ≤ k) : garlandref01_Put.f k a = some ([], 2) := by
  obtain ⟨k, rfl⟩ : ∃ i, k = i + 1 := ⟨k - 1, by omega⟩
  have ht : garlandref01_Put.j0 (k + 1) a true = some ([], 2) := by rw [garlandref01_Put.j0, if_pos rfl]
  unfold garlandref01_Put.f
  by_cases h0 : a < 0
  · rw [if_pos h0]; exact ht
  · rw [if_neg h0, decide_eq_true (by omega)]; exact ht
theorem refput_eq (a : Int) (k : Nat) (hk : 10 ≤ k) : garlandref01_Put.f k a = num_Put.f a := by
  rcases put_cases a with ⟨N, rfl, hN, hp⟩ | ⟨hb, hp⟩
  · rw [hp, refput_ok N k hN hk]
  · rw [hp, refput_bad a k hb hk]

/-! ### texts -/
theorem reftext_eq (s : ByteArray) (h : s.size ≤ 1000) : garlandref01_Text.f s = num_Text.f s := by
  unfold garlandref01_Text.f
  by_cases h1 : 256 ≤ s.size
  · rw [if_pos (by omega), text_long s h1]
  · rw [if_neg (by omega), Option.bind_some, if_pos (by simp; omega), text_ok s (by omega), show (s.size : Int) % 256 = s.size by omega]
    rfl
theorem reftaketext_eq (b : List Int) (hb : Bytes b) (hl : b.length ≤ 1000000) : garlandref01_TakeText.f b = num_TakeText.f b := by
  cases b with
  | nil => simp [garlandref01_TakeText.f, num_TakeText.f]
  | cons a t =>
    have ha := hb a List.mem_cons_self
    rw [List.length_cons] at hl
    unfold garlandref01_TakeText.f
    have e0 : rd (a :: t) 0 = a := rfl
    have e1 : wrap64 a = a := wrap64_small _ (by omega) (by omega)
    have e2 : wrap64 (1 + a) = 1 + a := wrap64_small _ (by omega) (by omega)
    rw [e0, e1, e2, List.length_cons]
    by_cases h : (t.length : Int) < a
    · rw [if_neg (by omega), if_pos (by omega), if_pos (by omega), taketext_not a t ha h (by omega)]
    · obtain ⟨m, rfl⟩ : ∃ m : Nat, a = (m : Int) := ⟨a.toNat, by omega⟩
      rw [taketext_there m t (by omega) (by omega) (by omega)]
      rw [if_neg (by omega), if_pos (by omega), if_neg (by omega), if_pos (by omega), if_pos (by omega), Option.bind_some, if_pos (by omega), show (1 + (m : Int)).toNat = m + 1 by omega, List.drop_succ_cons, if_pos (by rw [List.length_nil, List.length_drop]; omega)]
      rfl

/-! ### what is taken -/
theorem reftake_loop (a : Int) (t : List Int) (hb : Bytes t) (m : Nat) (hm : m ≤ 6) (hmt : m ≤ t.length) (htl : t.length ≤ 1000000) (R : Option (Int × List Int × Int))
    (hR : ∀ k, 1 ≤ k → garlandref01_Take.l0 k (a :: t) (m : Int) (numOf (t.take m)) ((m + 1 : Nat) : Int) = R) :
    ∀ (j i k : Nat), i + j = m → j + 1 ≤ k → garlandref01_Take.l0 k (a :: t) (m : Int) (numOf (t.take i)) ((i + 1 : Nat) : Int) = R
  | 0, i, k, h1, h2 => by
    obtain rfl : i = m := by omega
    exact hR k h2
  | j + 1, i, k, h1, h2 => by
    obtain ⟨k, rfl⟩ : ∃ i, k = i + 1 := ⟨k - 1, by omega⟩
    have hi : i < t.length := by omega
    have hd : t.take (i + 1) = t.take i ++ [rd t (i : Int)] := by
      rw [List.take_add_one, List.getElem?_eq_getElem hi]; simp [rd, hi]
    have hrd : rd (a :: t) ((i + 1 : Nat) : Int) = rd t (i : Int) := by simp [rd]
    have hbt := hb.take (i + 1)
    have hx : 0 ≤ rd t (i : Int) ∧ rd t (i : Int) < 256 := by rw [hd] at hbt; exact hbt _ (List.mem_append_right _ (List.mem_singleton.2 rfl))
    have hil : (t.take i).length = i := by rw [List.length_take]; omega
    have hn := numOf_lt (t.take i) (hb.take i) (by omega)
    have hp := pow_le (t.take i).length (by omega)
    have hv := numOf_add (t.take i) (rd t (i : Int)) (by rw [hd] at hbt; exact hbt) (by omega)
    rw [← hd] at hv
    rw [garlandref01_Take.l0, if_pos (by omega), if_pos (by omega), if_pos (by rw [List.length_cons]; omega), hrd]
    have e1 : wrap64 (wrap64 (numOf (t.take i) * 256) + wrap64 (rd t (i : Int))) = numOf (t.take (i + 1)) := by
      rw [hv, wrap64_small (numOf (t.take i) * 256) (by omega) (by omega), wrap64_small (rd t (i : Int)) (by omega) (by omega), wrap64_small _ (by omega) (by omega)]
    rw [e1, show wrap64 (((i + 1 : Nat) : Int) + 1) = ((i + 1 + 1 : Nat) : Int) by rw [wrap64_small _ (by omega) (by omega)]; omega]
    exact reftake_loop a t hb m hm hmt htl R hR j (i + 1) k (by omega) (by omega)
theorem reftake_eq (b : List Int) (hb : Bytes b) (hl : b.length ≤ 1000000) (k : Nat) (hk : 10 ≤ k) : garlandref01_Take.f k b = num_Take.f b := by
  cases b with
  | nil => simp [garlandref01_Take.f, num_Take.f]
  | cons a t =>
    have ha := hb a List.mem_cons_self
    have ht := hb.tail
    rw [List.length_cons] at hl
    have e0 : rd (a :: t) 0 = a := rfl
    have e1 : wrap64 a = a := wrap64_small _ (by omega) (by omega)
    have e2 : wrap64 (1 + a) = 1 + a := wrap64_small _ (by omega) (by omega)
    unfold garlandref01_Take.f num_Take.f
    rw [if_pos (c := (∀ x ∈ a :: t, 0 ≤ x ∧ x < 256) ∧ _) ⟨hb, by rw [List.length_cons]; omega⟩, e0, e1, e2, List.length_cons, List.headD_cons, List.drop_succ_cons, List.drop_zero, if_neg (by omega), if_pos (by omega), if_neg (c := t.length + 1 = 0) (by omega)]
    by_cases h6 : 6 < a
    · rw [if_pos h6, if_pos h6]
    rw [if_neg h6, if_neg (show ¬ a > 6 from h6)]
    by_cases hs : ((t.length + 1 : Nat) : Int) ≤ a
    · rw [if_pos hs, if_pos (by omega)]
    rw [if_neg hs, if_neg (by omega)]
    obtain ⟨m, rfl⟩ : ∃ m : Nat, a = (m : Int) := ⟨a.toNat, by omega⟩
    rw [Int.toNat_natCast]
    refine reftake_loop (m : Int) t ht m (by omega) (by omega) (by omega) _ ?_ m 0 k (by omega) (by omega)
    intro k hk
    obtain ⟨k, rfl⟩ : ∃ i, k = i + 1 := ⟨k - 1, by omega⟩
    have e3 : (1 + (m : Int)).toNat = m + 1 := by omega
    rw [garlandref01_Take.l0, if_neg (by omega), e2, e3, List.length_cons, List.drop_succ_cons, Option.bind_some]
    have hdl : (t.drop m).length ≤ t.length := by rw [List.length_drop]; omega
    rcases Nat.eq_zero_or_pos m with rfl | hp
    · rw [if_neg (by decide), if_neg (by simp [numOf]), if_pos (by omega), if_pos (by omega), if_pos (by rw [List.length_nil]; omega), if_pos (.inl rfl)]
      rfl
    · have h1 : rd ((m : Int) :: t) 1 = t.headD 0 := by
        cases t with
        | nil => rfl
        | cons y t => rfl
      have hh : 0 ≤ t.headD 0 := by
        cases t with
        | nil => simp
        | cons y t => exact (ht y List.mem_cons_self).1
      rw [if_pos (by omega), if_pos (by omega), h1]
      by_cases hz : t.headD 0 = 0
      · rw [if_pos hz, if_neg (by omega)]
      · rw [if_neg hz]
        by_cases hmx : numOf (t.take m) ≤ 1099511627776
        · rw [if_neg (by omega), if_pos (by omega), if_pos (by omega), if_pos (by rw [List.length_nil]; omega), if_pos (.inr ⟨by omega, hmx⟩)]
          rfl
        · rw [if_pos (by omega), if_neg (by omega)]

/-! ### lists -/
theorem reflist_loop (l : List Int) (hl : l.length ≤ 1000) : ∀ (m i k : Nat) (acc : List Int), i + m = l.length → m + 10 < k → acc.length + 7 * m ≤ 1000000 →
    garlandref01_List.l0 k l acc (i : Int) = if fineL (l.drop i) = true then some (acc ++ Math.encs (l.drop i), 0) else some ([], 2)
  | 0, i, k, acc, h1, h2, h3 => by
    obtain ⟨k, rfl⟩ : ∃ j, k = j + 1 := ⟨k - 1, by omega⟩
    rw [garlandref01_List.l0, if_neg (by omega), List.drop_of_length_le (by omega)]
    simp [fineL, Math.encs]
  | m + 1, i, k, acc, h1, h2, h3 => by
    obtain ⟨k, rfl⟩ : ∃ j, k = j + 1 := ⟨k - 1, by omega⟩
    have hi : i < l.length := by omega
    rw [garlandref01_List.l0, if_pos (by omega), if_pos (by omega), rd_drop l i hi, fineL_cons, refput_eq _ k (by omega)]
    cases hok : okN (rd l (i : Int)) with
    | false => rw [put_bad' hok]; simp
    | true =>
      have hr := okN_of hok
      have h7 := enc_len7 (rd l (i : Int)).toNat (by omega)
      rw [put_ok' hok]
      simp only [Option.bind_some, if_true, Bool.true_and]
      rw [if_pos (by omega), show wrap64 ((i : Int) + 1) = ((i + 1 : Nat) : Int) by rw [wrap64_small _ (by omega) (by omega)]; omega]
      rw [reflist_loop l hl m (i + 1) k _ (by omega) (by omega) (by rw [List.length_append]; omega), Math.encs_cons, List.append_assoc]
theorem reflist_eq (l : List Int) (k : Nat) (hl : l.length ≤ 1000) (hk : l.length + 10 < k) : garlandref01_List.f k l = num_List.f k l := by
  unfold garlandref01_List.f
  by_cases h : (l.length : Int) > 255
  · rw [if_pos h]
    unfold num_List.f
    rw [if_pos (by omega)]
  · rw [if_neg h, list_eq l k (by omega) (by omega)]
    have := reflist_loop l hl l.length 0 k [(l.length : Int) % 256] (by omega) hk (by simp; omega)
    rw [List.drop_zero, show (l.length : Int) % 256 = l.length by omega] at this
    rw [show (l.length : Int) % 256 = l.length by omega]
    exact this
theorem reftakelist_loop (c : Nat) (t : List Int) (hc : c < 256) : ∀ (m i k : Nat) (acc b : List Int), i + m = c → m + 10 < k → Bytes b → b.length ≤ 1000000 →
    garlandref01_TakeList.l0 k ((c : Int) :: t) acc b (i : Int) = num_TakeList.l0 k acc b (c : Int) (i : Int)
  | 0, i, k, acc, b, h1, h2, hb, hl => by
    obtain ⟨k, rfl⟩ : ∃ j, k = j + 1 := ⟨k - 1, by omega⟩
    have e0 : rd ((c : Int) :: t) 0 = (c : Int) := rfl
    rw [garlandref01_TakeList.l0, num_TakeList.l0, e0, wrap64_small (c : Int) (by omega) (by omega), if_pos (by rw [List.length_cons]; omega), if_neg (by omega), if_neg (by omega), Option.bind_some, if_pos (by rw [List.length_nil]; omega)]
    rfl
  | m + 1, i, k, acc, b, h1, h2, hb, hl => by
    obtain ⟨k, rfl⟩ : ∃ j, k = j + 1 := ⟨k - 1, by omega⟩
    have e0 : rd ((c : Int) :: t) 0 = (c : Int) := rfl
    rw [garlandref01_TakeList.l0, num_TakeList.l0, e0, wrap64_small (c : Int) (by omega) (by omega), if_pos (by rw [List.length_cons]; omega), if_pos (by omega), if_pos (by omega), reftake_eq b hb hl k (by omega)]
    cases ht : num_Take.f b with
    | none => rfl
    | some q =>
      obtain ⟨n, p, e⟩ := q
      rw [Option.bind_some, Option.bind_some]
      dsimp only
      rcases take_only b hb (by omega) n e p ht with ⟨rfl, _, _, hbe, hp⟩ | ⟨_, _, he⟩
      · have hpl : p.length ≤ b.length := by rw [hbe, List.length_append]; omega
        rw [if_pos rfl, if_pos rfl, show wrap64 ((i : Int) + 1) = ((i + 1 : Nat) : Int) by rw [wrap64_small _ (by omega) (by omega)]; omega, show (((i : Int) + 1) % 256) = ((i + 1 : Nat) : Int) by omega,
          reftakelist_loop c t hc m (i + 1) k (acc ++ [n]) p (by omega) (by omega) hp (by omega)]
      · rw [if_neg (by omega), if_neg (by omega)]
theorem reftakelist_eq (b : List Int) (hb : Bytes b) (hl : b.length ≤ 1000000) (k : Nat) (hk : 300 ≤ k) : garlandref01_TakeList.f k b = num_TakeList.f k b := by
  unfold garlandref01_TakeList.f num_TakeList.f
  cases b with
  | nil => rfl
  | cons a t =>
    have ha := hb a List.mem_cons_self
    rw [List.length_cons] at hl
    obtain ⟨c, rfl⟩ : ∃ c : Nat, a = (c : Int) := ⟨a.toNat, by omega⟩
    have e0 : rd ((c : Int) :: t) 0 = (c : Int) := rfl
    rw [if_neg (by rw [List.length_cons]; omega), if_pos (by rw [List.length_cons]; omega), if_neg (by rw [List.length_cons]; omega), if_pos (by rw [List.length_cons]; omega), List.drop_succ_cons, List.drop_zero, clone_ok _ (by omega), Option.bind_some, if_pos (by rw [List.length_cons]; omega), e0]
    exact reftakelist_loop c t (by omega) c 0 k [] t (by omega) (by omega) hb.tail (by omega)
end Go.Proofs.Ytnaohcimmafhkaa.Math
