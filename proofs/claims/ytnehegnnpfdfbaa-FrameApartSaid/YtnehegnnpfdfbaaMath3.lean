/- What Close and Open answer, told by the register: a frame is what has its head, its size, and leaves the register empty. -/
import Derived.Test.YtnehegnnpfdfbaaMath2
namespace Go.Proofs.Ytnehegnnpfdfbaa.Math
open Go.RowKit Go.Proofs.Ytnehegnnpfdfbaa.G Go.Proofs.YtnehegnnpfdfbaaW.PrintWords

theorem wrap64_small (x : Int) (h0 : -9223372036854775808 ≤ x) (h1 : x < 9223372036854775808) : wrap64 x = x := by unfold wrap64; omega
theorem Bytes.app {l m : List Int} (h : Bytes l) (k : Bytes m) : Bytes (l ++ m) := fun x hx => (List.mem_append.1 hx).elim (h x) (k x)
theorem Bytes.take {l : List Int} (h : Bytes l) (n : Nat) : Bytes (l.take n) := fun x hx => h x (List.mem_of_mem_take hx)
theorem Bytes.drop {l : List Int} (h : Bytes l) (n : Nat) : Bytes (l.drop n) := fun x hx => h x (List.mem_of_mem_drop hx)
theorem strs_eq : ∀ (a b : List Int), Bytes a → Bytes b → ((strOfNums a).toList = (strOfNums b).toList ↔ a = b) := by
  intro a b ha hb
  rw [ByteArray.toList_eq, ByteArray.toList_eq, strOfNums_data, strOfNums_data]
  constructor
  · intro h
    apply List.ext_getElem
    · have := congrArg List.length h; simpa using this
    · intro i h1 h2
      have e := congrArg (fun l : List UInt8 => l[i]?) h
      simp only [List.getElem?_map, List.getElem?_eq_getElem h1, List.getElem?_eq_getElem h2, Option.map_some, Option.some.injEq] at e
      have e2 := congrArg UInt8.toNat e
      have hx := ha _ (List.getElem_mem h1)
      have hy := hb _ (List.getElem_mem h2)
      simp only [UInt8.toNat_ofNat'] at e2
      omega
  · intro h; rw [h]
theorem same_eq (a b : List Int) (ha : Bytes a) (hb : Bytes b) : garlandlaw05_same.f a b = some (decide (a = b)) := by
  unfold garlandlaw05_same.f
  congr 1
  rw [Bool.eq_iff_iff]
  simp [strs_eq a b ha hb]
theorem equal_eq (a b : List Int) (ha : Bytes a) (hb : Bytes b) : bytes_Equal.f a b = some (decide (a = b)) := same_eq a b ha hb
def tailI (s : Int) : List Int := [(s / 16777216) % 256, (s / 65536) % 256, (s / 256) % 256, s % 256]
theorem tail_bytes (s : Int) : Bytes (tailI s) := by
  intro x hx
  simp only [tailI, List.mem_cons, List.not_mem_nil, or_false] at hx
  omega
theorem val_byte' (a : Int) (h : 0 ≤ a ∧ a ≤ 255) : (val (byteBits a) : Int) = a := by
  have := val_byte ⟨a.toNat, by omega⟩
  simp only at this
  rw [Int.toNat_of_nonneg h.1] at this
  omega
theorem val_four (a b c d : Int) (ha : 0 ≤ a ∧ a ≤ 255) (hb : 0 ≤ b ∧ b ≤ 255) (hc : 0 ≤ c ∧ c ≤ 255) (hd : 0 ≤ d ∧ d ≤ 255) : (val (B [a, b, c, d]) : Int) = a * 16777216 + b * 65536 + c * 256 + d := by
  have e : B [a, b, c, d] = byteBits a ++ (byteBits b ++ (byteBits c ++ byteBits d)) := by simp [B]
  rw [e, val_append, val_append, val_append]
  simp only [List.length_append, byteBits_len]
  have h1 := val_byte' a ha
  have h2 := val_byte' b hb
  have h3 := val_byte' c hc
  have h4 := val_byte' d hd
  omega
theorem four (t : List Int) (h : t.length = 4) : ∃ a b c d, t = [a, b, c, d] := by
  match t, h with
  | [a, b, c, d], _ => exact ⟨a, b, c, d, rfl⟩
theorem tail_iff (t : List Int) (ht : Bytes t) (hl : t.length = 4) (s : Int) (hs : 0 ≤ s ∧ s < 4294967296) : t = tailI s ↔ (val (B t) : Int) = s := by
  obtain ⟨a, b, c, d, rfl⟩ := four t hl
  have ha := ht a (by simp)
  have hb := ht b (by simp)
  have hc := ht c (by simp)
  have hd := ht d (by simp)
  rw [val_four a b c d ha hb hc hd]
  simp only [tailI, List.cons.injEq, and_true]
  omega
theorem sumI_range (l : List Int) : 0 ≤ sumI l ∧ sumI l < 4294967296 := by
  rw [sumI_eq]
  have := (run (reg l) (List.replicate 32 false)).isLt
  omega
theorem zip_zeros : ∀ (m : List Bool) (n : Nat), m.length = n → List.zipWith (· ^^ ·) (List.replicate n false) m = m
  | [], _, h => by subst h; rfl
  | x :: m, n, h => by
    subst h
    rw [List.length_cons, List.replicate_succ, List.zipWith_cons_cons, Bool.false_xor, zip_zeros m m.length rfl]
theorem reg_append (h t : List Int) : reg (h ++ t) = run (reg h) (B t) := by
  unfold reg; rw [B_append, run_append]
theorem reg_zero_iff (h t : List Int) (ht : Bytes t) (hl : t.length = 4) : reg (h ++ t) = 0#32 ↔ t = tailI (sumI h) := by
  have hB : (B t).length = 32 := by rw [B_len, hl]
  have e := run_lin (List.replicate 32 false) (B t) (reg h) 0#32 (by rw [hB]; simp)
  rw [BitVec.xor_zero, zip_zeros _ 32 hB] at e
  rw [reg_append, e, tail_iff t ht hl _ (sumI_range h), sumI_eq, ← run_low (B t) (by omega)]
  generalize run (reg h) (List.replicate 32 false) = x
  generalize run 0#32 (B t) = y
  constructor
  · intro h0
    have h1 : x ^^^ y ^^^ y = 0#32 ^^^ y := by rw [h0]
    rw [BitVec.xor_assoc, BitVec.xor_self, BitVec.xor_zero, BitVec.zero_xor] at h1
    rw [h1]
  · intro h0
    have h1 : y = x := BitVec.eq_of_toNat_eq (by omega)
    rw [h1, BitVec.xor_self]
/-- A head, of a payload of n bytes. -/
def hd (n : Int) : List Int := [71, 1, (n / 256) % 256, n % 256]
theorem hd_bytes (n : Int) : Bytes (hd n) := by
  intro x hx
  simp only [hd, List.mem_cons, List.not_mem_nil, or_false] at hx
  omega
def frameOf (l : List Int) : List Int := hd l.length ++ l ++ tailI (sumI (hd l.length ++ l))
theorem frame_len (l : List Int) : (frameOf l).length = l.length + 8 := by simp [frameOf, hd, tailI] <;> omega
theorem frame_bytes (l : List Int) (h : Bytes l) : Bytes (frameOf l) := ((hd_bytes _).app h).app (tail_bytes _)
theorem size_eq (n : Nat) (h : n ≤ 112) : frame_Size.f (n : Int) = some ((n : Int) + 8) := by
  unfold frame_Size.f
  rw [if_pos (by omega), if_pos (by omega), wrap64_small _ (by omega) (by omega)]
theorem size_no (n : Int) (h : 112 < n) : frame_Size.f n = some 0 := by
  unfold frame_Size.f
  rw [if_pos (by omega), if_neg (by omega)]
theorem sum_some (l : List Int) (h : l.length ≤ 1000000000) : frame_Sum.f l = some (sumI l) := by
  unfold frame_Sum.f; rw [if_pos h]
theorem close_eq (l : List Int) (h : l.length ≤ 112) : frame_Close.f l = some (frameOf l, 0) := by
  have e4 : (hd (l.length : Int)).length = 4 := rfl
  unfold frame_Close.f
  rw [size_eq _ h]
  simp only [Option.bind_some]
  rw [if_neg (by omega)]
  show (if (hd (l.length : Int)).length + l.length < 140737488355328 then _ else _) = _
  rw [if_pos (by omega)]
  show ((frame_Sum.f (hd (l.length : Int) ++ l)).bind _) = _
  rw [sum_some _ (by rw [List.length_append]; omega)]
  simp only [Option.bind_some]
  show (if (hd (l.length : Int) ++ l).length + (tailI (sumI (hd (l.length : Int) ++ l))).length < 140737488355328 then _ else _) = _
  rw [if_pos (by simp [hd, tailI] <;> omega)]
  rfl
theorem close_no (l : List Int) (h : 112 < l.length) : frame_Close.f l = some ([], 2) := by
  unfold frame_Close.f
  rw [size_no _ (by omega)]
  rfl
/-- These bytes are a frame. -/
def isFrame (b : List Int) : Prop := b.length ≤ 120 ∧ b.take 4 = hd ((b.length : Int) - 8) ∧ reg b = 0#32
instance (b : List Int) : Decidable (isFrame b) := by unfold isFrame; exact inferInstance
def openOf (b : List Int) : List Int × Int := if b.length < 8 then ([], 11) else if isFrame b then ((b.take (b.length - 4)).drop 4, 0) else ([], 12)
theorem open_eq (b : List Int) (hb : Bytes b) (hl : b.length ≤ 1000000000000) : frame_Open.f b = some (openOf b) := by
  unfold frame_Open.f openOf
  rw [wrap64_small ((b.length : Int) - 8) (by omega) (by omega)]
  by_cases h8 : b.length < 8
  · rw [if_pos (by omega), if_pos h8]
  · rw [if_neg (by omega), if_neg h8]
    by_cases h120 : b.length ≤ 120
    · have es : frame_Size.f ((b.length : Int) - 8) = some ((b.length : Int)) := by
        have := size_eq (b.length - 8) (by omega)
        rw [show ((b.length - 8 : Nat) : Int) = (b.length : Int) - 8 by omega] at this
        rw [this]; congr 1; omega
      rw [es]
      simp only [Option.bind_some]
      rw [if_neg (by omega), if_pos (by omega)]
      have e1 := equal_eq (b.take 4) (hd ((b.length : Int) - 8)) (hb.take 4) (hd_bytes _)
      show ((bytes_Equal.f (b.take 4) (hd ((b.length : Int) - 8))).bind _) = _
      rw [e1]
      simp only [Option.bind_some]
      by_cases hh : b.take 4 = hd ((b.length : Int) - 8)
      · rw [if_pos (decide_eq_true hh), wrap64_small (4 + ((b.length : Int) - 8)) (by omega) (by omega), if_pos (by omega), if_pos (by omega)]
        rw [show (4 + ((b.length : Int) - 8)).toNat = b.length - 4 by omega]
        rw [sum_some _ (by simp; omega)]
        simp only [Option.bind_some]
        show (((some (tailI (sumI (b.take (b.length - 4))))).bind _)) = _
        simp only [Option.bind_some]
        rw [equal_eq _ _ (hb.drop _) (tail_bytes _)]
        simp only [Option.bind_some]
        have hz := reg_zero_iff (b.take (b.length - 4)) (b.drop (b.length - 4)) (hb.drop _) (by simp; omega)
        rw [List.take_append_drop] at hz
        by_cases hr : b.drop (b.length - 4) = tailI (sumI (b.take (b.length - 4)))
        · rw [if_pos (decide_eq_true hr), if_pos (by omega), if_pos ⟨h120, hh, hz.2 hr⟩]
          unfold bytes_Clone.f
          rw [if_pos (by simp; omega)]
          rfl
        · rw [if_neg (by simpa using hr), if_neg (fun hf => hr (hz.1 hf.2.2))]
      · rw [if_neg (by simpa using hh), if_neg (fun hf => hh hf.2.1)]
    · have hnf : ¬ isFrame b := fun hf => h120 hf.1
      rw [size_no _ (by omega)]
      simp [hnf]
theorem frame_isFrame (l : List Int) (h : Bytes l) (hl : l.length ≤ 112) : isFrame (frameOf l) := by
  refine ⟨by rw [frame_len]; omega, ?_, ?_⟩
  · rw [frame_len, show ((l.length + 8 : Nat) : Int) - 8 = (l.length : Int) by omega]
    unfold frameOf
    rw [List.append_assoc, List.take_append_of_le_length (by simp [hd])]
    rfl
  · exact (reg_zero_iff _ _ (tail_bytes _) rfl).2 rfl
theorem frame_mid (l : List Int) : ((frameOf l).take ((frameOf l).length - 4)).drop 4 = l := by
  rw [frame_len]
  unfold frameOf
  rw [List.take_append_of_le_length (by simp [hd] <;> omega), List.take_of_length_le (by simp [hd] <;> omega)]
  rfl
theorem open_frame (l : List Int) (h : Bytes l) (hl : l.length ≤ 112) : openOf (frameOf l) = (l, 0) := by
  unfold openOf
  rw [if_neg (by rw [frame_len]; omega), if_pos (frame_isFrame l h hl), frame_mid]
/-- What is a frame is that of what stands in it. -/
theorem isFrame_eq (b : List Int) (hb : Bytes b) (h8 : 8 ≤ b.length) (h : isFrame b) : frameOf ((b.take (b.length - 4)).drop 4) = b := by
  have hlen : ((b.take (b.length - 4)).drop 4).length = b.length - 8 := by simp; omega
  have hz := reg_zero_iff (b.take (b.length - 4)) (b.drop (b.length - 4)) (hb.drop _) (by simp; omega)
  rw [List.take_append_drop] at hz
  have ht := hz.1 h.2.2
  have hh : hd ((((b.take (b.length - 4)).drop 4).length : Nat) : Int) ++ (b.take (b.length - 4)).drop 4 = b.take (b.length - 4) := by
    rw [hlen, show ((b.length - 8 : Nat) : Int) = (b.length : Int) - 8 by omega, ← h.2.1]
    have e : b.take 4 = (b.take (b.length - 4)).take 4 := by rw [List.take_take]; congr 1; omega
    rw [e, List.take_append_drop]
  unfold frameOf
  rw [hh, ← ht, List.take_append_drop]
end Go.Proofs.Ytnehegnnpfdfbaa.Math
