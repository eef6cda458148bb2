/- The order of bytes is that of the numbers. -/
import Derived.Test.YtnaohcimmafhkaaMath3
namespace Go.Proofs.Ytnaohcimmafhkaa.Math
open Go.RowKit Go.Proofs.Ytnaohcimmafhkaa.G Go.Proofs.YtnaohcimmafhkaaW.PrintWords

def lessI : List Int → List Int → Bool
  | _, [] => false
  | [], _ :: _ => true
  | a :: x, b :: y => decide (a < b) || (decide (a = b) && lessI x y)
theorem less_eq : ∀ (a b : List Int), Bytes a → Bytes b → Op.bytesLess (a.map fun n => UInt8.ofNat n.toNat) (b.map fun n => UInt8.ofNat n.toNat) = lessI a b
  | _, [], _, _ => by simp [Op.bytesLess, lessI]
  | [], _ :: _, _, _ => by simp [Op.bytesLess, lessI]
  | x :: a, y :: b, ha, hb => by
    have hx := ha x List.mem_cons_self
    have hy := hb y List.mem_cons_self
    have e1 : (UInt8.ofNat x.toNat < UInt8.ofNat y.toNat) ↔ x < y := by
      rw [UInt8.lt_iff_toNat_lt]; simp only [UInt8.toNat_ofNat']; omega
    have e2 : (UInt8.ofNat x.toNat = UInt8.ofNat y.toNat) ↔ x = y := by
      rw [← UInt8.toNat_inj]; simp only [UInt8.toNat_ofNat']; omega
    have ih := less_eq a b ha.tail hb.tail
    have e3 : (UInt8.ofNat x.toNat == UInt8.ofNat y.toNat) = decide (x = y) := by rw [Bool.eq_iff_iff]; simp only [beq_iff_eq, decide_eq_true_eq]; exact e2
    simp only [List.map_cons, Op.bytesLess, lessI, ih, e3]
    simp only [e1]

theorem numOf_cons (a : Int) (x : List Int) : Bytes (a :: x) → x.length ≤ 5 → numOf (a :: x) = a * 256 ^ x.length + numOf x := by
  induction x using snoc_rec with
  | h0 =>
    intro hb _
    have h := numOf_add [] a (fun y hy => hb y (by simpa using hy)) (by simp)
    simp [numOf] at h ⊢
    exact h
  | h1 l y ih =>
    intro hb hl
    rw [List.length_append, List.length_singleton] at hl
    have hb1 : Bytes (a :: l) := fun z hz => hb z (by rcases List.mem_cons.1 hz with rfl | h; exact List.mem_cons_self; exact List.mem_cons_of_mem _ (List.mem_append_left _ h))
    rw [← List.cons_append, numOf_add _ _ hb (by simp; omega), ih hb1 (by omega), numOf_add l y hb.tail (by omega), List.length_append, List.length_singleton, Int.pow_succ, Int.add_mul, Int.mul_assoc]
    omega

theorem less_num : ∀ (d e : List Int), Bytes d → Bytes e → d.length = e.length → d.length ≤ 6 → lessI d e = decide (numOf d < numOf e)
  | [], [], _, _, _, _ => by simp [lessI]
  | [], _ :: _, _, _, h, _ => by simp at h
  | _ :: _, [], _, _, h, _ => by simp at h
  | a :: x, b :: y, hd, he, hl, h6 => by
    simp only [List.length_cons, Nat.add_right_cancel_iff] at hl h6
    have ih := less_num x y hd.tail he.tail hl (by omega)
    have hx := numOf_lt x hd.tail (by omega)
    have hy := numOf_lt y he.tail (by omega)
    rw [lessI, numOf_cons a x hd (by omega), numOf_cons b y he (by omega), ih]
    rw [hl] at hx ⊢
    generalize (256 : Int) ^ y.length = P at hx hy ⊢
    by_cases hab : a < b
    · have hm : a * P + P ≤ b * P := by
        have := Int.mul_le_mul_of_nonneg_right (show a + 1 ≤ b by omega) (show (0 : Int) ≤ P by omega)
        rw [Int.add_mul, Int.one_mul] at this; exact this
      rw [decide_eq_true hab, decide_eq_true (show a * P + numOf x < b * P + numOf y by omega)]
      rfl
    · by_cases he : a = b
      · subst he
        rw [decide_eq_false hab, decide_eq_true rfl]
        simp
      · have hm : b * P + P ≤ a * P := by
          have := Int.mul_le_mul_of_nonneg_right (show b + 1 ≤ a by omega) (show (0 : Int) ≤ P by omega)
          rw [Int.add_mul, Int.one_mul] at this; exact this
        rw [decide_eq_false hab, decide_eq_false he, decide_eq_false (show ¬ (a * P + numOf x < b * P + numOf y) by omega)]
        rfl

theorem low_lt (N : Nat) (h : N ≤ 1099511627776) : N < 256 ^ (low N).length := by
  have h6 : (low N).length ≤ 6 := low_len 6 N (by omega)
  have := (numOf_lt (low N).reverse (low_bytes N).reverse (by simpa using h6)).2
  rw [numOf_low N h, List.length_reverse] at this
  have e : ((256 ^ (low N).length : Nat) : Int) = (256 : Int) ^ (low N).length := by rw [Int.natCast_pow]; rfl
  rw [← e] at this
  exact Int.ofNat_lt.1 this
theorem lt_of_len (N M : Nat) (hN : N ≤ 1099511627776) (h : (low N).length < (low M).length) : N < M := by
  have h1 := low_lt N hN
  by_cases h2 : M < 256 ^ ((low M).length - 1)
  · have := low_len _ M h2; omega
  · have : 256 ^ (low N).length ≤ 256 ^ ((low M).length - 1) := Nat.pow_le_pow_right (by decide) (by omega)
    omega

theorem less_enc (N M : Nat) (hN : N ≤ 1099511627776) (hM : M ≤ 1099511627776) : Op.bytesLess (strOfNums (enc N)).toList (strOfNums (enc M)).toList = decide (N < M) := by
  rw [ByteArray.toList_eq, ByteArray.toList_eq, strOfNums_data, strOfNums_data, less_eq _ _ (enc_bytes N hN) (enc_bytes M hM)]
  unfold enc
  rw [lessI]
  have hl : (low N).length ≤ 6 := low_len 6 N (by omega)
  by_cases h1 : (low N).length < (low M).length
  · rw [decide_eq_true (show ((low N).length : Int) < ((low M).length : Int) by omega), decide_eq_true (lt_of_len N M hN h1)]
    rfl
  · rw [decide_eq_false (show ¬ ((low N).length : Int) < ((low M).length : Int) by omega)]
    by_cases h2 : (low N).length = (low M).length
    · rw [decide_eq_true (show ((low N).length : Int) = ((low M).length : Int) by omega), less_num _ _ (low_bytes N).reverse (low_bytes M).reverse (by simpa using h2) (by simpa using hl), numOf_low N hN, numOf_low M hM]
      simp
    · have := lt_of_len M N hM (by omega)
      rw [decide_eq_false (show ¬ ((low N).length : Int) = ((low M).length : Int) by omega), decide_eq_false (show ¬ N < M by omega)]
      rfl
end Go.Proofs.Ytnaohcimmafhkaa.Math
