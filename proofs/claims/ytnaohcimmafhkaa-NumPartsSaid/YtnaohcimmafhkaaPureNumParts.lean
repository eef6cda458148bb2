/- A text's bytes are its length and it, a list's its length and each number's; numbers side by side are taken one by one. -/
import Derived.Test.YtnaohcimmafhkaaG16
import Derived.Test.YtnaohcimmafhkaaMath5
namespace Go.Proofs.Ytnaohcimmafhkaa.Pure
open Go.RowKit Go.Proofs.Ytnaohcimmafhkaa.G Go.Proofs.Ytnaohcimmafhkaa.Math Go.Proofs.YtnaohcimmafhkaaW.PrintWords

theorem fine_drop {l : List Int} (h : fineL l = true) (i : Nat) : fineL (l.drop i) = true := by
  rw [fineL, List.all_eq_true] at h ⊢
  exact fun x hx => h x (List.mem_of_mem_drop hx)
theorem take_snoc (l : List Int) (i : Nat) (h : i < l.length) : l.take (i + 1) = l.take i ++ [rd l (i : Int)] := by
  rw [List.take_add_one, List.getElem?_eq_getElem h]; simp [rd, h]
theorem encs_one (x : Int) : Math.encs [x] = enc x.toNat := by simp [Math.encs]

theorem parts_take (l : List Int) (hl : l.length ≤ 100) (hf : fineL l = true) : ∀ (m i k : Nat), i + m = l.length → m + 20 < k →
    garlandlaw01_NumParts.l1 k l (Math.encs (l.drop i)) (i : Int) = some true
  | 0, i, k, h1, h2 => by
    obtain ⟨k, rfl⟩ : ∃ j, k = j + 1 := ⟨k - 1, by omega⟩
    rw [garlandlaw01_NumParts.l1, if_neg (by omega), List.drop_of_length_le (by omega), Math.encs_nil, List.length_nil, if_pos (show ((0 : Nat) : Int) = 0 from rfl), wakes_of k (by omega)]
    rfl
  | m + 1, i, k, h1, h2 => by
    obtain ⟨k, rfl⟩ : ∃ j, k = j + 1 := ⟨k - 1, by omega⟩
    have hi : i < l.length := by omega
    have hd := rd_drop l i hi
    have hfd := fine_drop hf i
    have hel := encs_len _ (fine_drop hf (i + 1))
    rw [List.length_drop] at hel
    rw [hd, fineL_cons, Bool.and_eq_true] at hfd
    have hr := okN_of hfd.1
    rw [garlandlaw01_NumParts.l1, if_pos (by omega), hd, encs_cons, take_ok _ (by omega) _ (encs_bytes _ hfd.2) (by omega)]
    simp only [Option.bind_some, if_true]
    rw [if_pos (by omega), if_pos (by omega), if_neg (by rw [List.length_append, enc_len]; omega), show wrap64 ((i : Int) + 1) = ((i + 1 : Nat) : Int) by rw [wrap64_small _ (by omega) (by omega)]; omega]
    exact parts_take l hl hf m (i + 1) k (by omega) (by omega)

theorem parts_put (l : List Int) (hl : l.length ≤ 100) (b : List Int) (e : Int) (hb : (b, e) = if fineL l = true then ((l.length : Int) :: Math.encs l, 0) else ([], 2)) : ∀ (m i k : Nat), i + m = l.length → m + 200 < k → fineL (l.take i) = true →
    garlandlaw01_NumParts.l0 k l b e (Math.encs (l.take i)) (i : Int) = some true
  | 0, i, k, h1, h2, h3 => by
    obtain ⟨k, rfl⟩ : ∃ j, k = j + 1 := ⟨k - 1, by omega⟩
    rw [List.take_of_length_le (by omega)] at h3 ⊢
    rw [if_pos h3] at hb
    obtain ⟨rfl, rfl⟩ := Prod.mk.inj hb
    have hel := encs_len l h3
    have hbl := encs_bytes l h3
    have e0 : rd ((l.length : Int) :: Math.encs l) 0 = (l.length : Int) := rfl
    rw [garlandlaw01_NumParts.l0, if_neg (by omega), if_pos rfl, List.length_cons, if_pos (by rw [wrap64_small _ (by omega) (by omega)]; omega), if_pos (by omega), e0, if_pos (wrap64_small _ (by omega) (by omega)), if_pos (by omega), List.drop_succ_cons, List.drop_zero, same_eq _ _ hbl hbl]
    simp only [Option.bind_some, decide_true, Bool.not_true]
    obtain ⟨k, rfl⟩ : ∃ j, k = j + 1 := ⟨k - 1, by omega⟩
    rw [garlandlaw01_NumParts.j3, if_neg (by decide)]
    exact parts_take l hl h3 l.length 0 k (by omega) (by omega)
  | m + 1, i, k, h1, h2, h3 => by
    obtain ⟨k, rfl⟩ : ∃ j, k = j + 1 := ⟨k - 1, by omega⟩
    have hi : i < l.length := by omega
    have hel := encs_len _ h3
    rw [List.length_take] at hel
    rw [garlandlaw01_NumParts.l0, if_pos (by omega), if_pos (by omega)]
    cases hok : okN (rd l (i : Int)) with
    | true =>
      have hr := okN_of hok
      have h7 := enc_len7 (rd l (i : Int)).toNat (by omega)
      rw [put_ok' hok]
      simp only [Option.bind_some, if_true]
      rw [if_pos (by omega), show wrap64 ((i : Int) + 1) = ((i + 1 : Nat) : Int) by rw [wrap64_small _ (by omega) (by omega)]; omega, ← encs_one, ← Math.encs_append, ← take_snoc l i hi]
      refine parts_put l hl b e hb m (i + 1) k (by omega) (by omega) ?_
      rw [take_snoc l i hi, fineL, List.all_append]
      have : (l.take i).all okN = true := h3
      rw [this]
      simp [hok]
    | false =>
      have hnf : ¬ fineL l = true := by
        intro h
        have := fine_drop h i
        rw [rd_drop l i hi, fineL_cons, hok] at this
        simp at this
      rw [if_neg hnf] at hb
      obtain ⟨rfl, rfl⟩ := Prod.mk.inj hb
      rw [put_bad' hok]
      simp only [Option.bind_some]
      rw [if_neg (by decide)]
      simp only [if_true]
      rw [List.length_nil, if_pos (show ((0 : Nat) : Int) = 0 from rfl), wakes_of k (by omega)]
      rfl

theorem parts_all (K : Nat) (hK : 400 ≤ K) (s : ByteArray) (l : List Int) (hs : s.size ≤ 255) (hl : l.length ≤ 100) : garlandlaw01_NumParts.j0 (K + 2) s l false = some true := by
  have hbl := bytesOf_length s
  have e0 : rd ((s.size : Int) :: bytesOf s) 0 = (s.size : Int) := rfl
  have hj : ∀ x, garlandlaw01_NumParts.j1 (K + 1) l false = some x → garlandlaw01_NumParts.j0 (K + 2) s l false = some x := by
    intro x hx
    rw [garlandlaw01_NumParts.j0, if_neg (by decide)]
    obtain ⟨J, hJ⟩ : ∃ J, garlandlaw01_NumParts.j1 (K + 1) = J := ⟨_, rfl⟩
    rw [hJ] at hx ⊢
    rw [text_ok s (by omega), Option.bind_some]
    dsimp only
    rw [if_pos rfl, List.length_cons, if_pos (by rw [wrap64_small _ (by omega) (by omega)]; omega), if_pos (by omega), e0, if_pos (wrap64_small _ (by omega) (by omega)), if_pos (by omega), List.drop_succ_cons, List.drop_zero, str_bytesOf, bne_self_eq_false]
    exact hx
  refine hj _ ?_
  rw [garlandlaw01_NumParts.j1, if_neg (by decide), list_eq l K (by omega) (by omega)]
  have e1 : Math.encs (l.take 0) = [] := rfl
  have key := fun (b : List Int) (e : Int) hb => parts_put l (by omega) b e hb l.length 0 K (by omega) (by omega) rfl
  rw [e1] at key
  by_cases hf : fineL l = true
  · rw [if_pos hf] at key ⊢
    rw [Option.bind_some]
    exact key _ _ rfl
  · rw [if_neg hf] at key ⊢
    rw [Option.bind_some]
    exact key _ _ rfl
theorem NumParts : garlandlaw01_NumParts.Pure := by
  intro s l _ _ _ _
  obtain ⟨K, hK⟩ : ∃ K : Nat, 400 ≤ K := ⟨400, Nat.le_refl _⟩
  refine ⟨K + 2, ?_⟩
  have htrue : garlandlaw01_NumParts.j0 (K + 2) s l true = some true := by
    rw [garlandlaw01_NumParts.j0, if_pos rfl, wakes_of _ (by omega)]
    rfl
  unfold garlandlaw01_NumParts.f
  split
  · exact htrue
  rename_i hs
  by_cases hl : (l.length : Int) > 100
  · rw [decide_eq_true hl]; exact htrue
  rw [decide_eq_false hl]
  exact parts_all K hK s l (by omega) (by omega)
end Go.Proofs.Ytnaohcimmafhkaa.Pure
