/- States, sums, frames, payloads, sizes: the program's answers are the document's own. -/
import Derived.Test.YtnehegnnpfdfbaaG8
import Derived.Test.YtnehegnnpfdfbaaMath5
namespace Go.Proofs.Ytnehegnnpfdfbaa.Pure
open Go.RowKit Go.Proofs.Ytnehegnnpfdfbaa.G Go.Proofs.Ytnehegnnpfdfbaa.Math Go.Proofs.YtnehegnnpfdfbaaW.PrintWords Go.Proofs.YtnehegnnpfdfbaaW.PrintMore

theorem tbit_at : ∀ (a : Fin 256) (j : Fin 8), ((Go.bits .and .u8 (shr .u8 ((a.val : Nat) : Int) (IntKind.u64.wrap ((j.val : Nat) : Int))) 1) == 1) = a.val.testBit j.val := by decide +kernel
theorem tbyteBits_drop (a : Nat) (h : a < 256) (m : Nat) (hm : m < 8) : (byteBits (a : Int)).drop (8 - (m + 1)) = a.testBit m :: (byteBits (a : Int)).drop (8 - m) := by
  rw [byteBits_eq a h]
  have : m = 0 ∨ m = 1 ∨ m = 2 ∨ m = 3 ∨ m = 4 ∨ m = 5 ∨ m = 6 ∨ m = 7 := by omega
  rcases this with rfl | rfl | rfl | rfl | rfl | rfl | rfl | rfl <;> rfl
theorem tu64_small (j : Nat) (h : j < 8) : IntKind.u64.wrap (j : Int) = (j : Int) := by simp [IntKind.wrap, IntKind.bits, IntKind.signed]; omega
theorem or_one (a : Nat) : (2 * a) ||| 1 = 2 * a + 1 := by
  apply Nat.eq_of_testBit_eq
  intro i
  cases i with
  | zero => simp [Nat.testBit_or]
  | succ i =>
    rw [Nat.testBit_or, Nat.testBit_succ, Nat.testBit_succ, Nat.testBit_succ]
    rw [show 2 * a / 2 = a by omega, show (2 * a + 1) / 2 = a by omega]
    simp
theorem rstep_eq (s : Int) (hs : 0 ≤ s ∧ s < 4294967296) (x : Bool) : garlandref05_Step.f s x = some (stepI s x) := by
  obtain ⟨a, rfl⟩ : ∃ a : Nat, s = a := ⟨s.toNat, by omega⟩
  have ha : a < 4294967296 := by omega
  rw [stepI_nat a ha, stepV_nat a ha]
  have e2 : (a : Int) * 2 % 4294967296 = ((2 * (a % 2147483648) : Nat) : Int) := by omega
  have e3 : 2 * a % 4294967296 = 2 * (a % 2147483648) := by omega
  have hp : (1947962583 : Int) = ((1947962583 : Nat) : Int) := rfl
  unfold garlandref05_Step.f
  rw [e2, e3]
  have hor : Go.bits .or .u32 ((2 * (a % 2147483648) : Nat) : Int) 1 = ((2 * (a % 2147483648) + 1 : Nat) : Int) := by
    rw [show (1 : Int) = ((1 : Nat) : Int) by rfl, u32_or_nat _ _ (by omega) (by omega), or_one]
  rw [hor]
  cases x with
  | true =>
    rw [if_pos rfl]
    by_cases hh : 2147483648 ≤ a
    · rw [if_pos (by omega), if_pos hh, hp, u32_xor_nat _ _ (by omega) (by omega)]; rfl
    · rw [if_neg (by omega), if_neg hh, Nat.xor_zero]; rfl
  | false =>
    rw [if_neg (by decide)]
    by_cases hh : 2147483648 ≤ a
    · rw [if_pos (by omega), if_pos hh, hp, u32_xor_nat _ _ (by omega) (by omega)]; rfl
    · rw [if_neg (by omega), if_neg hh, Nat.xor_zero]; rfl
theorem rl1_run (x : List Int) (hx : Bytes x) (i : Nat) (hi : i < x.length) (hL : x.length ≤ 140737488351232) (m : Nat) : ∀ (k : Nat) (v : BitVec 32), m ≤ 8 →
    garlandref05_Sum.l1 (k + m + 1) x ((v.toNat : Nat) : Int) (i : Int) ((m : Int) - 1) = garlandref05_Sum.l0 k x (((run v ((byteBits x[i]).drop (8 - m))).toNat : Nat) : Int) ((i + 1 : Nat) : Int) := by
  induction m with
  | zero =>
    intro k v _
    simp only [garlandref05_Sum.l1]
    rw [if_neg (by omega), wrap64_small _ (by omega) (by omega), List.drop_of_length_le (by rw [byteBits_len]; omega)]
    rfl
  | succ m ih =>
    intro k v hm
    have hb := hx _ (List.getElem_mem hi)
    obtain ⟨a, ha⟩ : ∃ a : Nat, x[i] = a := ⟨x[i].toNat, by omega⟩
    have er : rd x (i : Int) = (a : Int) := by simp only [rd, Int.toNat_natCast, List.getD_eq_getElem?_getD, List.getElem?_eq_getElem hi, Option.getD_some]; exact ha
    have hbit := tbit_at ⟨a, by omega⟩ ⟨m, by omega⟩
    simp only at hbit
    obtain ⟨K, hK⟩ : ∃ K, K = k + m + 1 := ⟨_, rfl⟩
    rw [show k + (m + 1) + 1 = K + 1 by omega]
    simp only [garlandref05_Sum.l1]
    rw [show ((m + 1 : Nat) : Int) - 1 = (m : Int) by omega]
    rw [if_pos (by omega), if_pos (by omega), if_pos (by omega), if_pos (by rw [tu64_small m (by omega)]; omega), er, hbit, rstep_eq _ (by have := v.isLt; omega), stepI_V]
    simp only [Option.bind_some]
    rw [wrap64_small _ (by omega) (by omega), hK, ih k _ (by omega), ha, tbyteBits_drop a (by omega) m (by omega)]
    rfl
theorem rl2_run (m : Nat) : ∀ (k : Nat) (v : BitVec 32), m ≤ 32 → m < k → garlandref05_Sum.l2 k ((v.toNat : Nat) : Int) ((32 - m : Nat) : Int) = some (((run v (zs m)).toNat : Nat) : Int) := by
  induction m with
  | zero =>
    intro k v _ hk
    obtain ⟨k, rfl⟩ : ∃ m, k = m + 1 := ⟨k - 1, by omega⟩
    simp only [garlandref05_Sum.l2]
    rw [if_neg (by omega)]; rfl
  | succ m ih =>
    intro k v hm hk
    obtain ⟨k, rfl⟩ : ∃ m, k = m + 1 := ⟨k - 1, by omega⟩
    simp only [garlandref05_Sum.l2]
    rw [if_pos (by omega), rstep_eq _ (by have := v.isLt; omega), stepI_V]
    simp only [Option.bind_some]
    rw [wrap64_small _ (by omega) (by omega), show ((32 - (m + 1) : Nat) : Int) + 1 = ((32 - m : Nat) : Int) by omega, ih k _ (by omega) (by omega)]
    rfl
theorem treg_succ (x : List Int) (i : Nat) (hi : i < x.length) : reg (x.take (i + 1)) = run (reg (x.take i)) (byteBits x[i]) := by
  have e : x.take (i + 1) = x.take i ++ [x[i]] := by rw [List.take_add_one, List.getElem?_eq_getElem hi]; rfl
  rw [e, reg_append]; simp [B]
theorem rl0_run (x : List Int) (hx : Bytes x) (hL : x.length ≤ 140737488351232) (d : Nat) : ∀ (k i : Nat), i ≤ x.length → x.length - i = d → 10 * d + 40 < k →
    garlandref05_Sum.l0 k x (((reg (x.take i)).toNat : Nat) : Int) (i : Int) = some (sumI x) := by
  induction d with
  | zero =>
    intro k i hi hd hk
    obtain ⟨k, rfl⟩ : ∃ m, k = m + 1 := ⟨k - 1, by omega⟩
    obtain rfl : i = x.length := by omega
    simp only [garlandref05_Sum.l0]
    rw [if_neg (by omega), List.take_length]
    have := rl2_run 32 k (reg x) (by omega) (by omega)
    rw [Nat.sub_self] at this
    rw [sumI_eq]
    exact this
  | succ d ih =>
    intro k i hi hd hk
    obtain ⟨k, rfl⟩ : ∃ m, k = m + 8 + 1 + 1 := ⟨k - 10, by omega⟩
    simp only [garlandref05_Sum.l0]
    rw [if_pos (by omega)]
    have hl := rl1_run x hx i (by omega) hL 8 k (reg (x.take i)) (by omega)
    rw [show ((8 : Nat) : Int) - 1 = 7 by rfl] at hl
    rw [hl, Nat.sub_self, List.drop_zero, ← treg_succ x i (by omega)]
    exact ih k (i + 1) (by omega) (by omega) (by omega)
theorem rsum_eq (x : List Int) (hx : Bytes x) (hL : x.length ≤ 140737488351232) (k : Nat) (hk : 10 * x.length + 40 < k) : garlandref05_Sum.f k x = some (sumI x) := by
  unfold garlandref05_Sum.f
  exact rl0_run x hx hL x.length k 0 (by omega) (by omega) hk
theorem rsize_eq (n : Int) (h : -9223372036854775808 ≤ n ∧ n ≤ 9223372036854775807) : garlandref05_Size.f n = frame_Size.f n := by
  unfold garlandref05_Size.f frame_Size.f
  (repeat' split) <;> first | rfl | omega
theorem rclose_eq (l : List Int) (hl : Bytes l) (h : l.length ≤ 112) (k : Nat) (hk : 1300 < k) : garlandref05_Close.f k l = some (frameOf l, 0) := by
  have e4 : (hd (l.length : Int)).length = 4 := rfl
  unfold garlandref05_Close.f
  rw [rsize_eq _ (by omega), size_eq _ h]
  simp only [Option.bind_some]
  rw [if_neg (by omega)]
  show (if (hd (l.length : Int)).length + l.length < 140737488355328 then _ else _) = _
  rw [if_pos (by omega)]
  show ((garlandref05_Sum.f k (hd (l.length : Int) ++ l)).bind _) = _
  rw [rsum_eq _ ((hd_bytes _).app hl) (by rw [List.length_append]; omega) k (by rw [List.length_append]; omega)]
  simp only [Option.bind_some]
  show (if (hd (l.length : Int) ++ l).length + (tailI (sumI (hd (l.length : Int) ++ l))).length < 140737488355328 then _ else _) = _
  rw [if_pos (by simp [hd, tailI] <;> omega)]
  rfl
theorem rclose_no (l : List Int) (h : 112 < l.length) (hL : l.length ≤ 140737488351232) (k : Nat) : garlandref05_Close.f k l = some ([], 2) := by
  unfold garlandref05_Close.f
  rw [rsize_eq _ (by omega), size_no _ (by omega)]
  rfl
theorem ropen_eq (b : List Int) (hb : Bytes b) (hl : b.length ≤ 1000000000) (k : Nat) (hk : 1300 < k) : garlandref05_Open.f k b = some (openOf b) := by
  unfold garlandref05_Open.f openOf
  by_cases h8 : b.length < 8
  · rw [if_pos (by omega), if_pos h8]
  · rw [if_neg (by omega), if_neg h8]
    simp only [Option.bind_some, List.nil_append, List.length_nil]
    rw [wrap64_small _ (by omega) (by omega), if_pos (by omega), if_pos (by omega), show ((b.length : Int) - 4).toNat = b.length - 4 by omega]
    have hm : ((b.take (b.length - 4)).drop 4).length = b.length - 8 := by simp; omega
    have hbm : Bytes ((b.take (b.length - 4)).drop 4) := (hb.take _).drop _
    rw [if_pos (by omega)]
    by_cases h120 : b.length ≤ 120
    · rw [rclose_eq _ hbm (by omega) k hk]
      simp only [Option.bind_some, if_true]
      by_cases hf : isFrame b
      · rw [if_pos hf, isFrame_eq b hb (by omega) hf, if_pos rfl]
      · rw [if_neg hf, if_neg]
        intro h
        have e := (strs_eq _ _ (frame_bytes _ hbm) hb).1 h
        exact hf (e ▸ frame_isFrame _ hbm (by omega))
    · rw [rclose_no _ (by omega) (by omega)]
      rw [if_neg (show ¬ isFrame b from fun hf => h120 hf.1)]
      rfl
theorem tells_fine (s : Int) (x : Bool) (b : List Int) (n : Int) (hs : 0 ≤ s ∧ s < 4294967296) (hb : Bytes b) (hl : b.length ≤ 300) (hn : -9223372036854775808 ≤ n ∧ n ≤ 9223372036854775807) (k : Nat) (hk : 4000 < k) :
    garlandlaw05_FrameTells.f k s x b n = some true := by
  have hbo : Bytes (openOf b).1 := by
    unfold openOf
    split
    · exact bytes_nil
    · split
      · exact (hb.take _).drop _
      · exact bytes_nil
  have hz : ∃ z, frame_Size.f n = some z := by
    unfold frame_Size.f
    (repeat' split) <;> exact ⟨_, rfl⟩
  obtain ⟨z, hz⟩ := hz
  have hcl : ∃ c, frame_Close.f b = some c ∧ garlandref05_Close.f k b = some c ∧ Bytes c.1 := by
    by_cases h : b.length ≤ 112
    · exact ⟨_, close_eq b h, rclose_eq b hb h k (by omega), frame_bytes b hb⟩
    · exact ⟨_, close_no b (by omega), rclose_no b (by omega) (by omega) k, bytes_nil⟩
  obtain ⟨c, hc1, hc2, hcb⟩ := hcl
  unfold garlandlaw05_FrameTells.f
  rw [if_neg (by omega), hc1, Option.bind_some, hc2, Option.bind_some, open_eq b hb (by omega), Option.bind_some, ropen_eq b hb (by omega) k (by omega), Option.bind_some, step_some, Option.bind_some, rstep_eq s hs, Option.bind_some, if_pos rfl,
    sum_some b (by omega), Option.bind_some, rsum_eq b hb (by omega) k (by omega), Option.bind_some, if_pos rfl, same_eq _ _ hcb hcb, Option.bind_some, if_pos (decide_eq_true rfl), if_pos rfl, same_eq _ _ hbo hbo, Option.bind_some, if_pos (decide_eq_true rfl), if_pos rfl,
    rsize_eq n hn, hz, Option.bind_some, Option.bind_some, if_pos rfl, wakes_true, Option.bind_some]
theorem FrameTells : garlandlaw05_FrameTells.Pure := by
  intro s x b n hs _ _ hb hn
  have hs := u32_range hs
  have hb := u8s hb
  have hn : -9223372036854775808 ≤ n ∧ n ≤ 9223372036854775807 := by
    simp [Lit.wf, IntKind.min, IntKind.max, IntKind.signed, IntKind.bits] at hn; omega
  obtain ⟨k, hk⟩ : ∃ k : Nat, 4000 < k := ⟨4001, by omega⟩
  refine ⟨k, ?_⟩
  by_cases h : b.length ≤ 300
  · exact tells_fine s x b n hs hb h hn k hk
  · unfold garlandlaw05_FrameTells.f
    rw [if_pos (by omega), wakes_true]; rfl
end Go.Proofs.Ytnehegnnpfdfbaa.Pure
