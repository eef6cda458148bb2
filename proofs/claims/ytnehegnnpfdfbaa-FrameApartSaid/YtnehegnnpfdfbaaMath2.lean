/- The program's step, its sum and a byte's bits, told by the register of 32 bits. -/
import Derived.Test.YtnehegnnpfdfbaaG8
import Derived.Test.YtnehegnnpfdfbaaMath1
import Derived.Laws.BitsAllLaws
import Derived.KernelRfl
namespace Go.Proofs.Ytnehegnnpfdfbaa.Math
open Go.RowKit Go.Proofs.Ytnehegnnpfdfbaa.G Go.Proofs.YtnehegnnpfdfbaaW.PrintWords

def toV (s : Int) : BitVec 32 := BitVec.ofNat 32 s.toNat
theorem toV_nat (a : Nat) (h : a < 4294967296) : (toV (a : Int)).toNat = a := by
  simp [toV, BitVec.toNat_ofNat]; omega
theorem stepV_nat (a : Nat) (h : a < 4294967296) (x : Bool) : (stepV (toV (a : Int)) x).toNat = ((2 * a) % 4294967296 + x.toNat) ^^^ (if 2147483648 ≤ a then 1947962583 else 0) := by
  have e1 : (toV (a : Int)).getLsbD 31 = decide (2147483648 ≤ a) := by
    rw [BitVec.getLsbD, toV_nat a h, Nat.testBit_eq_decide_div_mod_eq]
    rw [Bool.eq_iff_iff]; simp; omega
  unfold stepV
  rw [e1]
  simp only [BitVec.toNat_xor, BitVec.toNat_shiftLeft, toV_nat a h]
  have e2 : a <<< 1 % 2 ^ 32 = 2 * a % 4294967296 := by rw [Nat.shiftLeft_eq, Nat.pow_one, Nat.mul_comm]
  rw [e2]
  have e3 : (2 * a % 4294967296) ^^^ (inB x).toNat = 2 * a % 4294967296 + x.toNat := by
    cases x with
    | false => simp [inB]
    | true =>
      have : 2 * a % 4294967296 = 2 * (a % 2147483648) := by omega
      rw [this]
      show (2 * (a % 2147483648)) ^^^ 1 = _
      rw [xor_one]; rfl
  rw [e3]
  by_cases hh : 2147483648 ≤ a
  · simp [hh, poly]
  · simp [hh]
theorem stepI_nat (a : Nat) (h : a < 4294967296) (x : Bool) : stepI (a : Int) x = ((stepV (toV (a : Int)) x).toNat : Int) := by
  rw [stepV_nat a h]
  have hand : Go.bits .and .u32 ((-((a : Int) / 2147483648)) % 4294967296) 1947962583 = (((if 2147483648 ≤ a then 1947962583 else 0 : Nat)) : Int) := by
    by_cases hh : 2147483648 ≤ a
    · rw [if_pos hh, show (-((a : Int) / 2147483648)) % 4294967296 = ((4294967295 : Nat) : Int) by omega, show (1947962583 : Int) = ((1947962583 : Nat) : Int) by rfl, u32_and_nat _ _ (by omega) (by omega)]
      rfl
    · rw [if_neg hh, show (-((a : Int) / 2147483648)) % 4294967296 = ((0 : Nat) : Int) by omega, show (1947962583 : Int) = ((1947962583 : Nat) : Int) by rfl, u32_and_nat _ _ (by omega) (by omega)]
      simp
  have hp : (if 2147483648 ≤ a then 1947962583 else 0 : Nat) < 4294967296 := by split <;> omega
  have e := step_some (a : Int) x
  unfold frame_Step.f at e
  rw [hand] at e
  cases x with
  | true =>
    rw [if_pos rfl] at e
    rw [← Option.some.inj e, show (a : Int) * 2 % 4294967296 + 1 = ((2 * a % 4294967296 + 1 : Nat) : Int) by omega, u32_xor_nat _ _ (by omega) hp]
    rfl
  | false =>
    rw [if_neg (by decide)] at e
    rw [← Option.some.inj e, show (a : Int) * 2 % 4294967296 = ((2 * a % 4294967296 : Nat) : Int) by omega, u32_xor_nat _ _ (by omega) hp]
    simp
theorem toV_toNat (v : BitVec 32) : toV ((v.toNat : Nat) : Int) = v := by
  unfold toV
  rw [Int.toNat_natCast]
  simp
theorem stepI_V (v : BitVec 32) (x : Bool) : stepI ((v.toNat : Nat) : Int) x = ((stepV v x).toNat : Int) := by
  rw [stepI_nat _ v.isLt, toV_toNat]
def ones : BitVec 32 := 4294967295#32
theorem sumB_from (l : List Bool) : ∀ v : BitVec 32, l.foldl stepI ((v.toNat : Nat) : Int) = ((run v l).toNat : Int) := by
  induction l with
  | nil => intro v; rfl
  | cons x l ih => intro v; rw [List.foldl_cons, stepI_V, ih, run_cons]
theorem sumB_eq (l : List Bool) : sumB l = ((run ones l).toNat : Int) := sumB_from l ones
/-- A list of bytes. -/
def Bytes (l : List Int) : Prop := ∀ x ∈ l, 0 ≤ x ∧ x ≤ 255
/-- The bits of bytes. -/
def B (l : List Int) : List Bool := l.flatMap byteBits
theorem B_append (l m : List Int) : B (l ++ m) = B l ++ B m := by simp [B]
theorem B_zeros : B [0, 0, 0, 0] = List.replicate 32 false := by decide +kernel
theorem bitsOf_eq (l : List Int) : bitsOf l = B l ++ List.replicate 32 false := by rw [← B_zeros, ← B_append]; rfl
theorem B_len (l : List Int) : (B l).length = 8 * l.length := flat_len l
/-- The register behind bytes. -/
def reg (l : List Int) : BitVec 32 := run ones (B l)
theorem sumI_eq (l : List Int) : sumI l = ((run (reg l) (List.replicate 32 false)).toNat : Int) := by
  rw [sumI, sumB_eq, bitsOf_eq, run_append]; rfl
theorem and_pow : ∀ (a : Fin 256) (j : Fin 8), ((((a.val &&& 2 ^ j.val : Nat)) : Int) != 0) = a.val.testBit j.val := by decide +kernel
theorem bitOf_eq (a : Nat) (h : a < 256) (j : Nat) (hj : j < 8) : bitOf (a : Int) ((2 ^ j : Nat) : Int) = a.testBit j := by
  have h2 : 2 ^ j < 256 := Nat.pow_lt_pow_right (by omega) (show j < 8 from hj)
  unfold bitOf
  rw [u8_and_nat a _ h h2]
  exact and_pow ⟨a, h⟩ ⟨j, hj⟩
theorem byteBits_eq (a : Nat) (h : a < 256) : byteBits (a : Int) = [a.testBit 7, a.testBit 6, a.testBit 5, a.testBit 4, a.testBit 3, a.testBit 2, a.testBit 1, a.testBit 0] := by
  have e := fun j hj => bitOf_eq a h j hj
  unfold byteBits ats
  simp only [List.map_cons, List.map_nil]
  rw [← e 7 (by omega), ← e 6 (by omega), ← e 5 (by omega), ← e 4 (by omega), ← e 3 (by omega), ← e 2 (by omega), ← e 1 (by omega), ← e 0 (by omega)]
  rfl
theorem byteBits_xor (a b : Nat) (ha : a < 256) (hb : b < 256) : byteBits (Go.bits .xor .u8 (a : Int) (b : Int)) = List.zipWith (· ^^ ·) (byteBits (a : Int)) (byteBits (b : Int)) := by
  rw [u8_xor_nat a b ha hb, byteBits_eq _ (Nat.xor_lt_two_pow (n := 8) ha hb), byteBits_eq a ha, byteBits_eq b hb]
  simp only [Nat.testBit_xor, List.zipWith_cons_cons, List.zipWith_nil_left]
theorem val_append (l m : List Bool) : val (l ++ m) = val l * 2 ^ m.length + val m := by
  refine snoc_rec (P := fun m => val (l ++ m) = val l * 2 ^ m.length + val m) m (by simp [val]) (fun m x ih => ?_)
  show val (l ++ (m ++ [x])) = _
  rw [← List.append_assoc, val_snoc, ih, val_snoc, List.length_append, List.length_singleton, Nat.pow_succ]
  rw [Nat.mul_add, ← Nat.mul_assoc, Nat.mul_comm 2 (val l), Nat.mul_assoc, Nat.mul_comm 2, ← Nat.mul_assoc]
  omega
theorem val_byte : ∀ a : Fin 256, val (byteBits ((a.val : Nat) : Int)) = a.val := by decide +kernel
end Go.Proofs.Ytnehegnnpfdfbaa.Math
