/- What is closed is opened; with up to 32 bits side by side that are others, not all as they were, a byte more, or one fewer, nothing is. -/
import Derived.Test.YtnehegnnpfdfbaaG8
import Derived.Test.YtnehegnnpfdfbaaPureFrameOnly
namespace Go.Proofs.Ytnehegnnpfdfbaa.Pure
open Go.RowKit Go.Proofs.Ytnehegnnpfdfbaa.G Go.Proofs.Ytnehegnnpfdfbaa.Math Go.Proofs.YtnehegnnpfdfbaaW.PrintWords Go.Proofs.YtnehegnnpfdfbaaW.PrintMore

/-- What the first i of the 32 bits come to. -/
def Bits (by_ : Nat) (i : Nat) (D : BitVec 32) : Prop := ∀ j, j < 32 → D.getLsbD j = (decide (31 - j < i) && by_.testBit (31 - j))
theorem bits_zero (by_ : Nat) : Bits by_ 0 0#32 := fun j hj => by simp
theorem bits_step (by_ i : Nat) (hi : i < 32) (D : BitVec 32) (h : Bits by_ i D) : Bits by_ (i + 1) (D ^^^ (if by_.testBit i then BitVec.twoPow 32 (31 - i) else 0#32)) := fun j hj => by
  rw [BitVec.getLsbD_xor, h j hj]
  by_cases hb : by_.testBit i = true
  · rw [if_pos hb, BitVec.getLsbD_twoPow]
    by_cases hj2 : j = 31 - i
    · subst hj2
      rw [show 31 - (31 - i) = i by omega, hb]
      simp; omega
    · have e1 : decide (31 - j < i + 1) = decide (31 - j < i) := by rw [decide_eq_decide]; omega
      have e2 : decide (31 - i = j) = false := decide_eq_false (by omega)
      rw [e1, e2]; simp
  · rw [if_neg hb]
    by_cases hj2 : j = 31 - i
    · subst hj2
      rw [show 31 - (31 - i) = i by omega]
      simp [hb]
    · have e1 : decide (31 - j < i + 1) = decide (31 - j < i) := by rw [decide_eq_decide]; omega
      rw [e1]; simp
theorem bits_end (by_ : Nat) (hb : by_ < 4294967296) (h : Bits by_ 32 0#32) : by_ = 0 := by
  apply Nat.eq_of_testBit_eq
  intro i
  rw [Nat.zero_testBit]
  by_cases hi : i < 32
  · have := h (31 - i) (by omega)
    rw [show 31 - (31 - i) = i by omega] at this
    simp at this
    have h2 : (decide (i < 32)) = true := decide_eq_true hi
    simpa [hi] using this
  · exact Nat.testBit_lt_two_pow (Nat.lt_of_lt_of_le hb (Nat.pow_le_pow_right (n := 2) (by omega) (by omega : 32 ≤ i)))
theorem bit_of (x : Nat) (hx : x < 4294967296) (i : Nat) (hi : i < 32) : (Go.bits .and .u32 (shr .u32 (x : Int) (IntKind.u64.wrap (i : Int))) 1 = 1) ↔ x.testBit i = true := by
  have e1 : IntKind.u64.wrap (i : Int) = (i : Int) := by simp [IntKind.wrap, IntKind.bits, IntKind.signed]; omega
  rw [e1]
  have e2 : shr .u32 (x : Int) (i : Int) = ((x / 2 ^ i : Nat) : Int) := by
    unfold shr
    rw [Int.toNat_natCast, Nat.min_eq_left (by simp [IntKind.bits]; omega)]
    simp
  have hlt : x / 2 ^ i < 4294967296 := Nat.lt_of_le_of_lt (Nat.div_le_self _ _) hx
  rw [e2, show (1 : Int) = ((1 : Nat) : Int) by rfl, u32_and_nat _ _ hlt (by omega), Nat.testBit_eq_decide_div_mod_eq, Nat.and_one_is_mod]
  simp only [decide_eq_true_eq]
  omega
theorem mask_of : ∀ r : Fin 8, shr .u8 128 (IntKind.u64.wrap ((r.val : Nat) : Int)) = ((2 ^ (7 - r.val) : Nat) : Int) := by decide +kernel

theorem last (l : List Int) (hl : Bytes l) (hn : l.length ≤ 112) (by_ : Nat) (hby : by_ < 4294967296) (at_ : Nat) (hat : at_ + 32 ≤ 8 * (l.length + 8)) (c : List Int) (hc : Bytes c) (hcl : c.length = l.length + 8)
    (D : BitVec 32) (hD : Bits by_ 32 D) (hr : reg c = run D (zs (8 * (l.length + 8) - 32 - at_))) (h0 : by_ = 0 → c = frameOf l) (k : Nat) :
    garlandlaw05_FrameBurst.l0 (k + 1) (at_ : Int) (by_ : Int) (frameOf l) c 32 = some true := by
  have hb := frame_bytes l hl
  have hbl := frame_len l
  have e1 : ((openOf c).2 == 0) = ((by_ : Int) == 0) := by
    by_cases hz : by_ = 0
    · rw [h0 hz, open_frame l hl hn, hz]; rfl
    · have : (openOf c).2 = 12 := by
        unfold openOf
        rw [if_neg (by omega), if_neg]
        intro hf
        have e := run_inj _ _ _ ((hr.symm.trans hf.2.2).trans (run_zero _).symm)
        subst e
        exact hz (bits_end by_ hby hD)
      rw [this]
      rw [Bool.eq_iff_iff]; simp; omega
  have hx1 : Bytes (frameOf l ++ [(by_ : Int) % 256]) := hb.app (fun x hx => by simp at hx; omega)
  have e2 : openOf (frameOf l ++ [(by_ : Int) % 256]) = ([], 12) := by
    unfold openOf
    rw [if_neg (by simp; omega), if_neg]
    intro hf
    have h1 := hf.2.1
    rw [List.take_append_of_le_length (by omega), (frame_isFrame l hl hn).2.1, List.length_append, hbl] at h1
    simp only [hd, List.length_singleton, List.cons.injEq, and_true, true_and] at h1
    have := hf.1
    rw [List.length_append, hbl, List.length_singleton] at this
    omega
  have hlast : (openOf ((frameOf l).take (l.length + 7))).2 = 12 ∨ (l.length = 0 ∧ (openOf ((frameOf l).take (l.length + 7))).2 = 11) := by
    have hl7 : ((frameOf l).take (l.length + 7)).length = l.length + 7 := by rw [List.length_take, hbl]; omega
    unfold openOf
    by_cases hz : l.length = 0
    · right
      rw [if_pos (by omega)]; exact ⟨hz, rfl⟩
    · left
      rw [if_neg (by omega), if_neg]
      intro hf
      have h1 := hf.2.1
      rw [List.take_take, show min 4 (l.length + 7) = 4 by omega, (frame_isFrame l hl hn).2.1, hl7, hbl] at h1
      simp only [hd, List.cons.injEq, and_true, true_and] at h1
      omega
  simp only [garlandlaw05_FrameBurst.l0]
  rw [if_neg (by omega), open_eq c hc (by omega)]
  simp only [Option.bind_some, List.nil_append, List.length_nil]
  rw [if_pos (by omega), if_pos (by omega), open_eq _ hx1 (by simp; omega), e2]
  simp only [Option.bind_some]
  rw [wrap64_small _ (by omega) (by omega), if_pos (by omega), if_pos (by omega), hbl, show (((l.length + 8 : Nat) : Int) - 1).toNat = l.length + 7 by omega, open_eq _ (hb.take _) (by rw [List.length_take]; omega)]
  simp only [Option.bind_some]
  rw [if_pos (by rw [e1]; simp), if_pos trivial]
  rcases hlast with h | ⟨hz, h⟩
  · rw [if_pos h, wakes_true]; rfl
  · rw [if_neg (by omega), if_pos (by omega), if_pos h, wakes_true]; rfl

theorem flips (l : List Int) (hl : Bytes l) (hn : l.length ≤ 112) (by_ : Nat) (hby : by_ < 4294967296) (at_ : Nat) (hat : at_ + 32 ≤ 8 * (l.length + 8)) (d : Nat) : ∀ (k i : Nat) (c : List Int), i ≤ 32 → 32 - i = d → d < k → Bytes c → c.length = l.length + 8 →
    ∀ (D : BitVec 32), Bits by_ i D → reg c = run D (zs (8 * (l.length + 8) - 32 - at_)) → (by_ = 0 → c = frameOf l) → garlandlaw05_FrameBurst.l0 k (at_ : Int) (by_ : Int) (frameOf l) c (i : Int) = some true := by
  induction d with
  | zero =>
    intro k i c hi hd hk hc hcl D hD hr h0
    obtain ⟨k, rfl⟩ : ∃ m, k = m + 1 := ⟨k - 1, by omega⟩
    obtain rfl : i = 32 := by omega
    exact last l hl hn by_ hby at_ hat c hc hcl D hD hr h0 k
  | succ d ih =>
    intro k i c hi hd hk hc hcl D hD hr h0
    obtain ⟨k, rfl⟩ : ∃ m, k = m + 1 := ⟨k - 1, by omega⟩
    have hs := bits_step by_ i (by omega) D hD
    have e64 : IntKind.u64.wrap (i : Int) = (i : Int) := by simp [IntKind.wrap, IntKind.bits, IntKind.signed]; omega
    simp only [garlandlaw05_FrameBurst.l0]
    rw [if_pos (by omega), if_pos (by rw [e64]; omega), wrap64_small ((i : Int) + 1) (by omega) (by omega), show (i : Int) + 1 = ((i + 1 : Nat) : Int) by omega]
    by_cases ht : by_.testBit i = true
    · rw [if_pos ((bit_of by_ hby i (by omega)).2 ht)]
      rw [if_pos ht] at hs
      have ep : wrap64 ((at_ : Int) + (i : Int)) = ((at_ + i : Nat) : Int) := by rw [wrap64_small _ (by omega) (by omega)]; omega
      have eq : wrap64 (Int.tdiv ((at_ + i : Nat) : Int) 8) = (((at_ + i) / 8 : Nat) : Int) := by
        rw [Int.tdiv_eq_ediv_of_nonneg (by omega), wrap64_small _ (by omega) (by omega)]; omega
      have er : Int.tmod ((at_ + i : Nat) : Int) 8 = (((at_ + i) % 8 : Nat) : Int) := by
        rw [Int.tmod_eq_emod_of_nonneg (by omega)]; omega
      have e642 : IntKind.u64.wrap (((at_ + i) % 8 : Nat) : Int) = (((at_ + i) % 8 : Nat) : Int) := by simp [IntKind.wrap, IntKind.bits, IntKind.signed]; omega
      have hq : (at_ + i) / 8 < c.length := by omega
      have erd : rd c (((at_ + i) / 8 : Nat) : Int) = c[(at_ + i) / 8] := by simp only [rd, Int.toNat_natCast, List.getD_eq_getElem?_getD, List.getElem?_eq_getElem hq, Option.getD_some]
      have hm := mask_of ⟨(at_ + i) % 8, by omega⟩
      simp only at hm
      rw [ep, eq, er, if_pos (by omega), if_pos (by omega), if_pos (by rw [e642]; omega), hm, erd, Int.toNat_natCast]
      have hb := reg_bit c hc (at_ + i) (by omega) _ rfl
      have h2 : 2 ^ (7 - (at_ + i) % 8) ≤ 2 ^ 7 := Nat.pow_le_pow_right (by omega) (by omega)
      have hx := xor_byte c[(at_ + i) / 8] ((2 ^ (7 - (at_ + i) % 8) : Nat) : Int) (hc _ (List.getElem_mem hq)) (by generalize 2 ^ (7 - (at_ + i) % 8) = t at h2; omega)
      refine ih k (i + 1) _ (by omega) (by omega) (by omega) (hc.set _ _ hx) (by rw [List.length_set]; exact hcl) _ hs ?_ ?_
      · rw [hb, hr, run_zs_lin, ← run_pow _ (by omega), run_zs]
        congr 3
        omega
      · intro hz
        subst hz
        simp at ht
    · have hne : ¬ (Go.bits .and .u32 (shr .u32 (by_ : Int) (IntKind.u64.wrap (i : Int))) 1 = 1) := fun h => ht ((bit_of by_ hby i (by omega)).1 h)
      rw [if_neg hne]
      rw [if_neg ht, BitVec.xor_zero] at hs
      exact ih k (i + 1) c (by omega) (by omega) (by omega) hc hcl D hs hr h0

theorem burst_j0 (l : List Int) (hl : Bytes l) (hn : l.length ≤ 112) (at_ : Int) (b : Nat) (hby : b < 4294967296) (k : Nat) (hk : 32 < k) :
    garlandlaw05_FrameBurst.j0 (k + 1) at_ (b : Int) (frameOf l) false = some true := by
  have hbl := frame_len l
  have e1 : wrap64 (wrap64 (8 * ((frameOf l).length : Int)) - 31) = ((8 * (l.length + 8) - 31 : Nat) : Int) := by
    rw [wrap64_small (8 * ((frameOf l).length : Int)) (by omega) (by omega), wrap64_small _ (by omega) (by omega)]; omega
  simp only [garlandlaw05_FrameBurst.j0]
  rw [e1]
  simp only [Bool.false_eq_true, if_false, List.nil_append, Option.bind_some, List.length_nil]
  rw [if_neg (by omega), if_pos (by omega)]
  have hp := place_tmod at_ ((8 * (l.length + 8) - 31 : Nat) : Int) (by omega) (by omega)
  generalize Int.tmod (wrap64 (Int.tmod at_ ((8 * (l.length + 8) - 31 : Nat) : Int) + ((8 * (l.length + 8) - 31 : Nat) : Int))) ((8 * (l.length + 8) - 31 : Nat) : Int) = p at hp
  obtain ⟨p, rfl⟩ : ∃ q : Nat, p = q := ⟨p.toNat, by omega⟩
  have hr := (frame_isFrame l hl hn).2.2
  exact flips l hl hn b hby p (by omega) 32 k 0 (frameOf l) (by omega) (by omega) hk (frame_bytes l hl) hbl 0#32 (bits_zero b) (by rw [hr]; exact (run_zero _).symm) (fun _ => rfl)
theorem burst_fine (l : List Int) (hl : Bytes l) (hn : l.length ≤ 112) (at_ : Int) (b : Nat) (hby : b < 4294967296) (k : Nat) (hk : 32 < k) : garlandlaw05_FrameBurst.f (k + 1) l at_ (b : Int) = some true := by
  have hc := close_eq l hn
  have ho := open_eq _ (frame_bytes l hl) (by rw [frame_len]; omega)
  rw [open_frame l hl hn] at ho
  have hbl := frame_len l
  have hj := burst_j0 l hl hn at_ b hby k hk
  have hs := same_eq l l hl hl
  rw [decide_eq_true rfl] at hs
  generalize frameOf l = F at hc ho hbl hj
  have e0 : ((F.length : Int) != wrap64 ((l.length : Int) + 8)) = false := by
    rw [wrap64_small _ (by omega) (by omega)]; simp; omega
  unfold garlandlaw05_FrameBurst.f
  rw [hc, Option.bind_some, if_neg (by omega), ho, Option.bind_some, if_pos rfl, if_pos rfl, hs, Option.bind_some, if_pos rfl, e0]
  exact hj
theorem burst_far (l : List Int) (hn : ¬ l.length ≤ 112) (at_ b : Int) (k : Nat) : garlandlaw05_FrameBurst.f k l at_ b = some true := by
  unfold garlandlaw05_FrameBurst.f
  rw [close_no l (by omega)]
  simp only [Option.bind_some]
  rw [if_pos (by omega), wakes_true]
  simp
theorem FrameBurst : garlandlaw05_FrameBurst.Pure := by
  intro l at_ by_ hm _ hl _ hby
  have hl := u8s hl
  have hby := u32_range hby
  obtain ⟨k, hk⟩ : ∃ k : Nat, 32 < k := ⟨33, by omega⟩
  refine ⟨k + 1, ?_⟩
  by_cases hn : l.length ≤ 112
  · obtain ⟨b, rfl⟩ : ∃ q : Nat, by_ = q := ⟨by_.toNat, by omega⟩
    exact burst_fine l hl hn at_ b (by omega) k hk
  · exact burst_far l hn at_ by_ (k + 1)
end Go.Proofs.Ytnehegnnpfdfbaa.Pure
