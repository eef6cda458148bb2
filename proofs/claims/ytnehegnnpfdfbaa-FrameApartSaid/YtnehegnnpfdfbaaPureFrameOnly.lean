/- What is opened has just that frame; and of a frame one byte of which is another one nothing is opened. -/
import Derived.Test.YtnehegnnpfdfbaaG9
import Derived.Test.YtnehegnnpfdfbaaMath5
namespace Go.Proofs.Ytnehegnnpfdfbaa.Pure
open Go.RowKit Go.Proofs.Ytnehegnnpfdfbaa.G Go.Proofs.Ytnehegnnpfdfbaa.Math Go.Proofs.YtnehegnnpfdfbaaW.PrintWords

theorem place_tmod (a n : Int) (hn : 0 < n) (h1 : n ≤ 1000000000) : 0 ≤ Int.tmod (wrap64 (Int.tmod a n + n)) n ∧ Int.tmod (wrap64 (Int.tmod a n + n)) n < n := by
  have h := Int.tmod_lt_of_pos a hn
  have h2 : -n < Int.tmod a n := by
    by_cases h : 0 ≤ a
    · rw [Int.tmod_eq_emod_of_nonneg h]; have := Int.emod_nonneg a (show n ≠ 0 by omega); omega
    · have e : Int.tmod a n = -(Int.tmod (-a) n) := by rw [Int.neg_tmod]; omega
      rw [e]; have := Int.tmod_lt_of_pos (-a) hn; omega
  rw [wrap64_small _ (by omega) (by omega), Int.tmod_eq_emod_of_nonneg (by omega)]
  exact ⟨Int.emod_nonneg _ (by omega), Int.emod_lt_of_pos _ hn⟩
theorem u8_rng {a : Int} (h : (Lit.int .u8 a).wf = true) : 0 ≤ a ∧ a ≤ 255 := by
  simp [Lit.wf, IntKind.min, IntKind.max, IntKind.signed, IntKind.bits] at h; omega
theorem FrameOnly : garlandlaw05_FrameOnly.Pure := by
  intro b at_ by_ _ _ hb _ hby
  have hb := u8s hb
  have hby := u8_rng hby
  refine ⟨1, ?_⟩
  unfold garlandlaw05_FrameOnly.f
  split
  · rw [wakes_true]; rfl
  · rename_i hlen
    rw [open_eq b hb (by omega)]
    simp only [Option.bind_some]
    by_cases h8 : b.length < 8
    · have e : openOf b = ([], 11) := by unfold openOf; rw [if_pos h8]
      rw [e]
      have e2 : decide ((b.length : Int) < 8) = true := decide_eq_true (by omega)
      simp only [e2, wakes_true]
      simp
    · by_cases hf : isFrame b
      · have e : openOf b = ((b.take (b.length - 4)).drop 4, 0) := by unfold openOf; rw [if_neg h8, if_pos hf]
        rw [e]
        simp only [if_true]
        have h120 := hf.1
        have hm : ((b.take (b.length - 4)).drop 4).length ≤ 112 := by simp; omega
        rw [close_eq _ hm]
        simp only [Option.bind_some, if_true]
        have hbm : Bytes ((b.take (b.length - 4)).drop 4) := (hb.take _).drop _
        rw [if_neg (by omega), isFrame_eq b hb (by omega) hf, same_eq b b hb hb]
        simp only [Option.bind_some, decide_true, if_true]
        simp only [garlandlaw05_FrameOnly.j0]
        by_cases h0 : by_ = 0
        · subst h0
          simp only [same_eq b b hb hb, Option.bind_some, decide_true, if_true, wakes_true, beq_self_eq_true]
        · have e0 : (by_ == 0) = false := by simpa using h0
          rw [e0]
          simp only [Bool.false_eq_true, if_false]
          have hp := place_tmod at_ b.length (by omega) (by omega)
          generalize Int.tmod (wrap64 (Int.tmod at_ b.length + b.length)) b.length = p at hp
          obtain ⟨q, rfl⟩ : ∃ q : Nat, p = q := ⟨p.toNat, by omega⟩
          have hq : q < b.length := by omega
          rw [if_neg (by omega)]
          simp only [Option.bind_some, List.nil_append, List.length_nil]
          rw [if_pos (by omega), if_pos (by omega), if_pos (by omega)]
          have er : rd b (q : Int) = b[q] := by simp [rd, hq]
          rw [er, Int.toNat_natCast]
          have hx := xor_byte b[q] by_ (hb _ (List.getElem_mem hq)) hby
          rw [open_eq _ (hb.set q _ hx) (by rw [List.length_set]; omega)]
          have e1 : openOf (b.set q (Go.bits .xor .u8 b[q] by_)) = ([], 12) := by
            unfold openOf
            rw [if_neg (by rw [List.length_set]; exact h8), if_neg (fun hd => reg_one b hb q hq by_ hby h0 hf.2.2 hd.2.2)]
          rw [e1]
          simp [wakes_true]
      · have e : openOf b = ([], 12) := by unfold openOf; rw [if_neg h8, if_neg hf]
        rw [e]
        have e2 : decide ((b.length : Int) < 8) = false := decide_eq_false (by omega)
        simp only [e2, wakes_true]
        simp
end Go.Proofs.Ytnehegnnpfdfbaa.Pure
