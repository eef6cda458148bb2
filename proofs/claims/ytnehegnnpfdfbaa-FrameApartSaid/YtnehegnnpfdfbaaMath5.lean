/- What comes of a byte that is put together with another: the register behind the bytes is turned by that byte's bits alone; and so by up to 32 bits side by side. -/
import Derived.Test.YtnehegnnpfdfbaaMath4
import Derived.Test.YtnehegnnpfdfbaaWMore
namespace Go.Proofs.Ytnehegnnpfdfbaa.Math
open Go.RowKit Go.Proofs.Ytnehegnnpfdfbaa.G Go.Proofs.YtnehegnnpfdfbaaW.PrintWords

def zs (n : Nat) : List Bool := List.replicate n false
theorem zs_len (n : Nat) : (zs n).length = n := by simp [zs]
theorem run_zs_lin (s t : BitVec 32) (n : Nat) : run (s ^^^ t) (zs n) = run s (zs n) ^^^ run t (zs n) := by
  have h := run_lin (zs n) (zs n) s t rfl
  rwa [show List.zipWith (· ^^ ·) (zs n) (zs n) = zs n from zip_zeros _ _ (zs_len n)] at h
theorem byteBits_set (x m : Int) (hx : 0 ≤ x ∧ x ≤ 255) (hm : 0 ≤ m ∧ m ≤ 255) : byteBits (Go.bits .xor .u8 x m) = List.zipWith (· ^^ ·) (byteBits x) (byteBits m) := by
  have := byteBits_xor x.toNat m.toNat (by omega) (by omega)
  rwa [Int.toNat_of_nonneg hx.1, Int.toNat_of_nonneg hm.1] at this
theorem xor_byte (x m : Int) (hx : 0 ≤ x ∧ x ≤ 255) (hm : 0 ≤ m ∧ m ≤ 255) : 0 ≤ Go.bits .xor .u8 x m ∧ Go.bits .xor .u8 x m ≤ 255 := by
  have := u8_xor_nat x.toNat m.toNat (by omega) (by omega)
  rw [Int.toNat_of_nonneg hx.1, Int.toNat_of_nonneg hm.1] at this
  have h2 := Nat.xor_lt_two_pow (n := 8) (x := x.toNat) (y := m.toNat) (by omega) (by omega)
  omega
theorem Bytes.set {l : List Int} (h : Bytes l) (q : Nat) (y : Int) (hy : 0 ≤ y ∧ y ≤ 255) : Bytes (l.set q y) := fun x hx => by
  rcases List.mem_or_eq_of_mem_set hx with h1 | rfl
  · exact h x h1
  · exact hy
/-- The register behind bytes one of which was put together with m. -/
theorem reg_set (l : List Int) (h : Bytes l) (q : Nat) (hq : q < l.length) (m : Int) (hm : 0 ≤ m ∧ m ≤ 255) :
    reg (l.set q (Go.bits .xor .u8 l[q] m)) = reg l ^^^ run (run 0#32 (byteBits m)) (zs (8 * (l.length - 1 - q))) := by
  have e1 : l.set q (Go.bits .xor .u8 l[q] m) = l.take q ++ [Go.bits .xor .u8 l[q] m] ++ l.drop (q + 1) := by
    rw [List.set_eq_take_append_cons_drop, if_pos hq]; simp
  have e2 : l = l.take q ++ [l[q]] ++ l.drop (q + 1) := by
    rw [List.append_assoc, List.singleton_append, List.getElem_cons_drop, List.take_append_drop]
  have hx := h _ (List.getElem_mem hq)
  have hb := byteBits_set l[q] m hx hm
  have eB : B [Go.bits .xor .u8 l[q] m] = List.zipWith (· ^^ ·) (B [l[q]]) (B [m]) := by simp [B, hb]
  have hr : reg l = run (run (reg (l.take q)) (B [l[q]])) (B (l.drop (q + 1))) := by
    conv => lhs; rw [e2]
    rw [reg_append, reg_append]
  rw [e1, reg_append, reg_append, eB, hr]
  have h1 := run_lin (B [l[q]]) (B [m]) (reg (l.take q)) 0#32 (by rw [B_len, B_len]; rfl)
  rw [BitVec.xor_zero] at h1
  rw [h1]
  have hl : (B (l.drop (q + 1))).length = 8 * (l.length - 1 - q) := by rw [B_len, List.length_drop]; congr 1; omega
  have h2 := run_lin (zs (8 * (l.length - 1 - q))) (B (l.drop (q + 1))) (run 0#32 (B [m])) (run (reg (l.take q)) (B [l[q]])) (by rw [zs_len, hl])
  rw [show List.zipWith (· ^^ ·) (zs (8 * (l.length - 1 - q))) (B (l.drop (q + 1))) = B (l.drop (q + 1)) from zip_zeros _ _ hl] at h2
  have eb : B [m] = byteBits m := by simp [B]
  rw [BitVec.xor_comm (run (reg (l.take q)) (B [l[q]])), h2, BitVec.xor_comm, eb]
theorem run_byte (m : Int) (hm : 0 ≤ m ∧ m ≤ 255) : (run 0#32 (byteBits m)).toNat = m.toNat := by
  rw [run_low _ (by rw [byteBits_len]; omega)]
  have := val_byte' m hm
  omega
/-- One byte that is another one is seen. -/
theorem reg_one (l : List Int) (h : Bytes l) (q : Nat) (hq : q < l.length) (m : Int) (hm : 0 ≤ m ∧ m ≤ 255) (h0 : m ≠ 0) (hr : reg l = 0#32) : reg (l.set q (Go.bits .xor .u8 l[q] m)) ≠ 0#32 := by
  rw [reg_set l h q hq m hm, hr, BitVec.zero_xor]
  intro e
  have e2 := run_inj _ _ _ (e.trans (run_zero _).symm)
  have e3 := congrArg BitVec.toNat e2
  rw [run_byte m hm] at e3
  have : (0#32).toNat = 0 := rfl
  omega
theorem val_zs (l : List Bool) (n : Nat) : val (l ++ zs n) = val l * 2 ^ n := by
  induction n with
  | zero => simp [zs]
  | succ n ih =>
    rw [zs, List.replicate_succ', ← List.append_assoc, val_snoc]
    show 2 * val (l ++ zs n) + _ = _
    rw [ih, Nat.pow_succ]
    simp only [Bool.toNat_false]
    rw [Nat.add_zero, Nat.mul_comm, Nat.mul_assoc]
theorem run_pow (j : Nat) (h : j ≤ 31) : run 1#32 (zs j) = BitVec.twoPow 32 j := by
  apply BitVec.eq_of_toNat_eq
  have e : run 1#32 (zs j) = run 0#32 ([true] ++ zs j) := rfl
  rw [e, run_low _ (by simp [zs_len]; omega), val_zs, BitVec.toNat_twoPow]
  have : 2 ^ j ≤ 2 ^ 31 := Nat.pow_le_pow_right (by omega) h
  have e1 : val [true] = 1 := rfl
  rw [e1, Nat.one_mul]
  generalize 2 ^ j = t at this
  omega
/-- A byte of one bit. -/
theorem run_bit (r : Nat) (h : r < 8) : run 0#32 (byteBits ((2 ^ (7 - r) : Nat) : Int)) = run 1#32 (zs (7 - r)) := by
  have h2 : 2 ^ (7 - r) ≤ 2 ^ 7 := Nat.pow_le_pow_right (by omega) (by omega)
  rw [run_pow _ (by omega)]
  apply BitVec.eq_of_toNat_eq
  rw [BitVec.toNat_twoPow]
  generalize 2 ^ (7 - r) = t at h2
  rw [run_byte _ (by omega)]
  omega
theorem run_zs (s : BitVec 32) (a b : Nat) : run (run s (zs a)) (zs b) = run s (zs (a + b)) := by
  rw [← run_append]; congr 1; simp [zs]
/-- The register behind bytes one bit of which was turned. -/
theorem reg_bit (l : List Int) (h : Bytes l) (p : Nat) (hp : p < 8 * l.length) (m : Int) (hm : m = ((2 ^ (7 - p % 8) : Nat) : Int)) :
    reg (l.set (p / 8) (Go.bits .xor .u8 (l[p / 8]'(by omega)) m)) = reg l ^^^ run 1#32 (zs (8 * l.length - 1 - p)) := by
  have h2 : 2 ^ (7 - p % 8) ≤ 2 ^ 7 := Nat.pow_le_pow_right (by omega) (by omega)
  have h3 : 0 ≤ m ∧ m ≤ 255 := by
    generalize 2 ^ (7 - p % 8) = t at h2 hm
    omega
  rw [reg_set l h (p / 8) (by omega) _ h3, hm, run_bit _ (by omega), run_zs]
  congr 3
  omega
end Go.Proofs.Ytnehegnnpfdfbaa.Math
