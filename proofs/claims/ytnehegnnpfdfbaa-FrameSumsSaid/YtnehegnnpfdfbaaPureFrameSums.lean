/- Sums go on by steps; of three rows of as many bytes, put together, the sum is that of the sums, put together. -/
import Derived.Test.YtnehegnnpfdfbaaG10
import Derived.Test.YtnehegnnpfdfbaaMath5
namespace Go.Proofs.Ytnehegnnpfdfbaa.Pure
open Go.RowKit Go.Proofs.Ytnehegnnpfdfbaa.G Go.Proofs.Ytnehegnnpfdfbaa.Math Go.Proofs.YtnehegnnpfdfbaaW.PrintWords Go.Proofs.YtnehegnnpfdfbaaW.PrintMore

theorem bit_at : ∀ (a : Fin 256) (j : Fin 8), ((Go.bits .and .u8 (shr .u8 ((a.val : Nat) : Int) (IntKind.u64.wrap ((j.val : Nat) : Int))) 1) == 1) = a.val.testBit j.val := by decide +kernel
theorem byteBits_drop (a : Nat) (h : a < 256) (m : Nat) (hm : m < 8) : (byteBits (a : Int)).drop (8 - (m + 1)) = a.testBit m :: (byteBits (a : Int)).drop (8 - m) := by
  rw [byteBits_eq a h]
  have : m = 0 ∨ m = 1 ∨ m = 2 ∨ m = 3 ∨ m = 4 ∨ m = 5 ∨ m = 6 ∨ m = 7 := by omega
  rcases this with rfl | rfl | rfl | rfl | rfl | rfl | rfl | rfl <;> rfl
theorem u64_small (j : Nat) (h : j < 8) : IntKind.u64.wrap (j : Int) = (j : Int) := by simp [IntKind.wrap, IntKind.bits, IntKind.signed]; omega
theorem l1_run (x y z : List Int) (n : Int) (e : List Int) (hx : Bytes x) (i : Nat) (hi : i < x.length) (hL : x.length ≤ 140737488351232) (m : Nat) : ∀ (k : Nat) (s : Int), m ≤ 8 →
    garlandlaw05_FrameSums.l1 (k + m + 1) x y z n e s (i : Int) ((m : Int) - 1) = garlandlaw05_FrameSums.l0 k x y z n e (((byteBits x[i]).drop (8 - m)).foldl stepI s) ((i + 1 : Nat) : Int) := by
  induction m with
  | zero =>
    intro k s _
    simp only [garlandlaw05_FrameSums.l1]
    rw [if_neg (by omega), wrap64_small _ (by omega) (by omega), List.drop_of_length_le (by rw [byteBits_len]; omega)]
    rfl
  | succ m ih =>
    intro k s hm
    have hb := hx _ (List.getElem_mem hi)
    obtain ⟨a, ha⟩ : ∃ a : Nat, x[i] = a := ⟨x[i].toNat, by omega⟩
    have er : rd x (i : Int) = (a : Int) := by simp only [rd, Int.toNat_natCast, List.getD_eq_getElem?_getD, List.getElem?_eq_getElem hi, Option.getD_some]; exact ha
    have hbit := bit_at ⟨a, by omega⟩ ⟨m, by omega⟩
    simp only at hbit
    obtain ⟨K, hK⟩ : ∃ K, K = k + m + 1 := ⟨_, rfl⟩
    rw [show k + (m + 1) + 1 = K + 1 by omega]
    simp only [garlandlaw05_FrameSums.l1]
    rw [show ((m + 1 : Nat) : Int) - 1 = (m : Int) by omega]
    rw [if_pos (by omega), if_pos (by omega), if_pos (by omega), if_pos (by rw [u64_small m (by omega)]; omega), er, hbit, step_some]
    simp only [Option.bind_some]
    rw [wrap64_small _ (by omega) (by omega), hK, ih k _ (by omega), ha, byteBits_drop a (by omega) m (by omega)]
    rfl
theorem zeros_cons (m : Nat) : zs (m + 1) = false :: zs m := rfl
/-- Put together, byte by byte. -/
def xor3 (x y z : List Int) (n : Nat) : List Int := (List.range n).map fun (i : Nat) => Go.bits .xor .u8 (Go.bits .xor .u8 (rd x (i : Int)) (rd y (i : Int))) (rd z (i : Int))
theorem xor3_len (x y z : List Int) (n : Nat) : (xor3 x y z n).length = n := by simp [xor3]
theorem xor3_succ (x y z : List Int) (n : Nat) : xor3 x y z (n + 1) = xor3 x y z n ++ [Go.bits .xor .u8 (Go.bits .xor .u8 (rd x (n : Int)) (rd y (n : Int))) (rd z (n : Int))] := by simp [xor3, List.range_succ]
theorem zip_append {l m l' m' : List Bool} (h : l.length = m.length) : List.zipWith (· ^^ ·) (l ++ l') (m ++ m') = List.zipWith (· ^^ ·) l m ++ List.zipWith (· ^^ ·) l' m' := List.zipWith_append h
theorem rd_byte {x : List Int} (hx : Bytes x) (i : Nat) (hi : i < x.length) : 0 ≤ rd x (i : Int) ∧ rd x (i : Int) ≤ 255 := by
  have := hx _ (List.getElem_mem hi)
  simp only [rd, Int.toNat_natCast, List.getD_eq_getElem?_getD, List.getElem?_eq_getElem hi, Option.getD_some]
  exact this
theorem take_rd (x : List Int) (n : Nat) (h : n < x.length) : x.take (n + 1) = x.take n ++ [rd x (n : Int)] := by
  rw [List.take_add_one, List.getElem?_eq_getElem h]
  simp [rd, h]
theorem B_one (a : Int) : B [a] = byteBits a := by simp [B]
theorem B_xor3 (x y z : List Int) (hx : Bytes x) (hy : Bytes y) (hz : Bytes z) (n : Nat) : n ≤ x.length → n ≤ y.length → n ≤ z.length →
    B (xor3 x y z n) = List.zipWith (· ^^ ·) (List.zipWith (· ^^ ·) (B (x.take n)) (B (y.take n))) (B (z.take n)) := by
  induction n with
  | zero => intro _ _ _; rfl
  | succ n ih =>
    intro h1 h2 h3
    have a := rd_byte hx n (by omega)
    have b := rd_byte hy n (by omega)
    have c := rd_byte hz n (by omega)
    rw [xor3_succ, B_append, ih (by omega) (by omega) (by omega), take_rd x n (by omega), take_rd y n (by omega), take_rd z n (by omega), B_append, B_append, B_append,
      zip_append (by rw [B_len, B_len, List.length_take, List.length_take]; omega),
      zip_append (by rw [List.length_zipWith, B_len, B_len, B_len, List.length_take, List.length_take, List.length_take]; omega),
      B_one, B_one, B_one, B_one, byteBits_set _ _ (xor_byte _ _ a b) c, byteBits_set _ _ a b]
theorem reg_xor3 (x y z : List Int) (hx : Bytes x) (hy : Bytes y) (hz : Bytes z) (n : Nat) (h1 : n ≤ x.length) (h2 : n ≤ y.length) (h3 : n ≤ z.length) :
    reg (xor3 x y z n) = reg (x.take n) ^^^ reg (y.take n) ^^^ reg (z.take n) := by
  have l1 : (B (x.take n)).length = 8 * n := by rw [B_len, List.length_take]; congr 1; omega
  have l2 : (B (y.take n)).length = 8 * n := by rw [B_len, List.length_take]; congr 1; omega
  have l3 : (B (z.take n)).length = 8 * n := by rw [B_len, List.length_take]; congr 1; omega
  have e1 := run_lin (B (x.take n)) (B (y.take n)) ones ones (by rw [l1, l2])
  have e2 := run_lin (List.zipWith (· ^^ ·) (B (x.take n)) (B (y.take n))) (B (z.take n)) (ones ^^^ ones) ones (by rw [List.length_zipWith, l1, l2, l3]; omega)
  rw [e1, BitVec.xor_self, BitVec.zero_xor] at e2
  unfold reg
  rw [B_xor3 x y z hx hy hz n h1 h2 h3, e2]
theorem sum_xor3 (x y z : List Int) (hx : Bytes x) (hy : Bytes y) (hz : Bytes z) (n : Nat) (h1 : n ≤ x.length) (h2 : n ≤ y.length) (h3 : n ≤ z.length) :
    sumI (xor3 x y z n) = Go.bits .xor .u32 (Go.bits .xor .u32 (sumI (x.take n)) (sumI (y.take n))) (sumI (z.take n)) := by
  rw [sumI_eq, sumI_eq, sumI_eq, sumI_eq, reg_xor3 x y z hx hy hz n h1 h2 h3]
  have e1 := run_zs_lin (reg (x.take n) ^^^ reg (y.take n)) (reg (z.take n)) 32
  have e2 := run_zs_lin (reg (x.take n)) (reg (y.take n)) 32
  show ((run _ (zs 32)).toNat : Int) = Go.bits .xor .u32 (Go.bits .xor .u32 ((run _ (zs 32)).toNat : Int) ((run _ (zs 32)).toNat : Int)) ((run _ (zs 32)).toNat : Int)
  rw [e1, e2, u32_xor_nat _ _ (run _ _).isLt (run _ _).isLt]
  rw [u32_xor_nat _ _ (Nat.xor_lt_two_pow (n := 32) (run _ _).isLt (run _ _).isLt) (run _ _).isLt]
  rw [BitVec.toNat_xor, BitVec.toNat_xor]

theorem reg_stepI (v : BitVec 32) (l : List Bool) : l.foldl stepI ((v.toNat : Nat) : Int) = ((run v l).toNat : Int) := sumB_from l v
theorem sums_end (x y z : List Int) (hx : Bytes x) (hy : Bytes y) (hz : Bytes z) (n : Nat) (hn : n ≤ 100) (h1 : n ≤ x.length) (h2 : n ≤ y.length) (h3 : n ≤ z.length) (m : Nat) : ∀ (k : Nat) (v : BitVec 32), m ≤ 32 → m < k →
    run v (zs m) = run (reg (x.take n)) (zs 32) →
    garlandlaw05_FrameSums.l2 k x y z (n : Int) (xor3 x y z n) ((v.toNat : Nat) : Int) ((32 - m : Nat) : Int) = some true := by
  induction m with
  | zero =>
    intro k v _ hk hv
    obtain ⟨k, rfl⟩ : ∃ m, k = m + 1 := ⟨k - 1, by omega⟩
    have hv : v = run (reg (x.take n)) (zs 32) := hv
    simp only [garlandlaw05_FrameSums.l2]
    rw [if_neg (by omega), if_pos (by omega), if_pos (by omega), Int.toNat_natCast, sum_some _ (by rw [List.length_take]; omega)]
    simp only [Option.bind_some]
    rw [if_pos (by rw [hv, sumI_eq]; rfl), sum_some _ (by rw [xor3_len]; omega)]
    simp only [Option.bind_some]
    rw [if_pos (by omega), sum_some _ (by rw [List.length_take]; omega)]
    simp only [Option.bind_some]
    rw [if_pos (by omega), sum_some _ (by rw [List.length_take]; omega)]
    simp only [Option.bind_some]
    rw [if_pos (sum_xor3 x y z hx hy hz n h1 h2 h3), wakes_true]
    rfl
  | succ m ih =>
    intro k v hm hk hv
    obtain ⟨k, rfl⟩ : ∃ m, k = m + 1 := ⟨k - 1, by omega⟩
    simp only [garlandlaw05_FrameSums.l2]
    rw [if_pos (by omega), step_some, stepI_V]
    simp only [Option.bind_some]
    rw [wrap64_small _ (by omega) (by omega), show ((32 - (m + 1) : Nat) : Int) + 1 = ((32 - m : Nat) : Int) by omega]
    exact ih k _ (by omega) (by omega) (by rw [← hv]; rfl)
theorem xor3_zeros_set (x y z : List Int) (n i : Nat) (hi : i < n) :
    (xor3 x y z i ++ List.replicate (n - i) 0).set i (Go.bits .xor .u8 (Go.bits .xor .u8 (rd x (i : Int)) (rd y (i : Int))) (rd z (i : Int))) = xor3 x y z (i + 1) ++ List.replicate (n - (i + 1)) 0 := by
  rw [xor3_succ, List.set_append_right _ _ (by rw [xor3_len]; omega), xor3_len, Nat.sub_self, show n - i = (n - (i + 1)) + 1 by omega, List.replicate_succ, List.set_cons_zero]
  simp
theorem reg_take_succ (x : List Int) (i : Nat) (hi : i < x.length) : reg (x.take (i + 1)) = run (reg (x.take i)) (byteBits x[i]) := by
  have e : x.take (i + 1) = x.take i ++ [x[i]] := by rw [List.take_add_one, List.getElem?_eq_getElem hi]; rfl
  rw [e, reg_append, B_one]
theorem sums_from (x y z : List Int) (hx : Bytes x) (hy : Bytes y) (hz : Bytes z) (n : Nat) (hn : n ≤ 100) (h1 : n ≤ x.length) (h2 : n ≤ y.length) (h3 : n ≤ z.length) (hL : x.length ≤ 140737488351232) (d : Nat) : ∀ (k i : Nat), i ≤ n → n - i = d → 10 * d + 40 < k →
    garlandlaw05_FrameSums.l0 k x y z (n : Int) (xor3 x y z i ++ List.replicate (n - i) 0) (((reg (x.take i)).toNat : Nat) : Int) (i : Int) = some true := by
  induction d with
  | zero =>
    intro k i hi hd hk
    obtain ⟨k, rfl⟩ : ∃ m, k = m + 1 := ⟨k - 1, by omega⟩
    obtain rfl : i = n := by omega
    simp only [garlandlaw05_FrameSums.l0]
    rw [if_neg (by omega), Nat.sub_self, List.replicate_zero, List.append_nil]
    exact sums_end x y z hx hy hz i hn h1 h2 h3 32 k _ (by omega) (by omega) rfl
  | succ d ih =>
    intro k i hi hd hk
    obtain ⟨k, rfl⟩ : ∃ m, k = m + 8 + 1 + 1 := ⟨k - 10, by omega⟩
    have e8 : (xor3 x y z i ++ List.replicate (n - i) 0).length = n := by rw [List.length_append, xor3_len, List.length_replicate]; omega
    simp only [garlandlaw05_FrameSums.l0]
    rw [if_pos (by omega), if_pos (by omega), if_pos (by omega), if_pos (by omega), if_pos (by omega), if_pos (by rw [e8]; omega), Int.toNat_natCast, xor3_zeros_set x y z n i (by omega)]
    have hl := l1_run x y z (n : Int) (xor3 x y z (i + 1) ++ List.replicate (n - (i + 1)) 0) hx i (by omega) hL 8 k (((reg (x.take i)).toNat : Nat) : Int) (by omega)
    rw [show ((8 : Nat) : Int) - 1 = 7 by rfl] at hl
    rw [hl, Nat.sub_self, List.drop_zero, reg_stepI, ← reg_take_succ x i (by omega)]
    exact ih k (i + 1) (by omega) (by omega) (by omega)
theorem sums_fine (x y z : List Int) (hx : Bytes x) (hy : Bytes y) (hz : Bytes z) (n : Nat) (hn : n ≤ 100) (h1 : n ≤ x.length) (h2 : n ≤ y.length) (h3 : n ≤ z.length) (hL : x.length ≤ 140737488351232) (k : Nat) (hk : 1040 < k) :
    garlandlaw05_FrameSums.l0 k x y z (n : Int) (List.replicate n 0) 4294967295 0 = some true :=
  sums_from x y z hx hy hz n hn h1 h2 h3 hL n k 0 (by omega) (by omega) (by omega)
theorem FrameSums : garlandlaw05_FrameSums.Pure := by
  intro x y z _ hx1 hx _ hy1 hy _ hz1 hz
  have hx := u8s hx
  have hy := u8s hy
  have hz := u8s hz
  obtain ⟨k, hk⟩ : ∃ k : Nat, 1040 < k := ⟨1041, by omega⟩
  refine ⟨k, ?_⟩
  unfold garlandlaw05_FrameSums.f
  have hm : ∃ n : Nat, mn (mn (x.length : Int) (y.length : Int)) (z.length : Int) = n ∧ n ≤ x.length ∧ n ≤ y.length ∧ n ≤ z.length := by
    refine ⟨(mn (mn (x.length : Int) (y.length : Int)) (z.length : Int)).toNat, ?_, ?_, ?_, ?_⟩ <;> (unfold mn; (repeat' split) <;> omega)
  obtain ⟨n, e, h1, h2, h3⟩ := hm
  rw [e]
  split
  · rw [wakes_true]; rfl
  · rw [if_pos (by omega), if_pos (by omega), Int.toNat_natCast]
    exact sums_fine x y z hx hy hz n (by omega) h1 h2 h3 (by omega) k hk
end Go.Proofs.Ytnehegnnpfdfbaa.Pure
