/- What the document says of no bytes holds; going on by a bit loses nothing. -/
import Derived.Test.YtnehegnnpfdfbaaMath3
namespace Go.Proofs.Ytnehegnnpfdfbaa.Math
open Go.RowKit Go.Proofs.Ytnehegnnpfdfbaa.G Go.Proofs.YtnehegnnpfdfbaaW.PrintWords

theorem bytes_nil : Bytes [] := fun x hx => by simp at hx
theorem bytes_rep (n : Nat) : Bytes (List.replicate n 0) := fun x hx => by
  have := List.eq_of_mem_replicate hx
  omega
theorem head_nil : (frameOf []).length = 8 ∧ rd (frameOf []) 0 = 71 ∧ rd (frameOf []) 1 = 1 ∧ rd (frameOf []) 2 = 0 ∧ rd (frameOf []) 3 = 0 := ⟨frame_len [], rfl, rfl, rfl, rfl⟩
theorem wakes_true : garlandlaw05_wakes.f = some true := by
  obtain ⟨h0, h1, h2, h3, h4⟩ := head_nil
  have e1 : openOf [71, 1, 0, 0] = ([], 11) := rfl
  have e2 : openOf (List.replicate 9 0) = ([], 12) := by
    unfold openOf
    rw [if_neg (by simp), if_neg (fun hf => by have := hf.2.1; simp [hd] at this)]
  have b1 : Bytes [71, 1, 0, 0] := hd_bytes 0
  have s1 : frame_Step.f 2147483648 false = some 1947962583 := by kernel_rfl
  have s2 : frame_Step.f 1 true = some 3 := by kernel_rfl
  have s3 : frame_Size.f 0 = some 8 := by kernel_rfl
  have s4 : frame_Size.f (-1) = some 0 := by kernel_rfl
  have s5 : frame_Size.f 112 = some 120 := by kernel_rfl
  unfold garlandlaw05_wakes.f
  rw [close_eq [] (by simp)]
  simp only [Option.bind_some]
  rw [open_eq _ (frame_bytes [] bytes_nil) (by rw [h0]; omega), open_frame [] bytes_nil (by simp), open_eq _ b1 (by simp), e1, open_eq _ (bytes_rep 9) (by simp), e2, close_no _ (by simp), s1, s2, s3, s4, s5]
  simp [h0, h1, h2, h3, h4]
theorem stepI_range (s : Int) (hs : 0 ≤ s ∧ s < 4294967296) (x : Bool) : 0 ≤ stepI s x ∧ stepI s x < 4294967296 := by
  have h := stepI_nat s.toNat (by omega) x
  rw [Int.toNat_of_nonneg hs.1] at h
  rw [h]
  have := (stepV (toV s) x).isLt
  omega
theorem stepI_inj (s t : Int) (hs : 0 ≤ s ∧ s < 4294967296) (ht : 0 ≤ t ∧ t < 4294967296) (x : Bool) (h : stepI s x = stepI t x) : s = t := by
  have h1 := stepI_nat s.toNat (by omega) x
  have h2 := stepI_nat t.toNat (by omega) x
  rw [Int.toNat_of_nonneg hs.1] at h1
  rw [Int.toNat_of_nonneg ht.1] at h2
  rw [h1, h2] at h
  have h3 := step_inj _ _ x (BitVec.eq_of_toNat_eq (Int.ofNat_inj.1 h))
  have h4 := congrArg BitVec.toNat h3
  have e1 := toV_nat s.toNat (by omega)
  have e2 := toV_nat t.toNat (by omega)
  rw [Int.toNat_of_nonneg hs.1] at e1
  rw [Int.toNat_of_nonneg ht.1] at e2
  omega
theorem stepI_two (s : Int) (hs : 0 ≤ s ∧ s < 4294967296) : stepI s true = Go.bits .xor .u32 (stepI s false) 1 := by
  have h1 := stepI_nat s.toNat (by omega) true
  have h2 := stepI_nat s.toNat (by omega) false
  rw [Int.toNat_of_nonneg hs.1] at h1 h2
  have h3 := step_lin (toV s) 0#32 false true
  rw [BitVec.xor_zero] at h3
  have e : stepV (0#32) true = 1#32 := by decide
  rw [e] at h3
  have h4 := congrArg BitVec.toNat h3
  rw [BitVec.toNat_xor] at h4
  rw [h1, h2, show (1 : Int) = ((1 : Nat) : Int) by rfl, u32_xor_nat _ _ (stepV (toV s) false).isLt (by omega)]
  congr 1
theorem u32_range {a : Int} (h : (Lit.int .u32 a).wf = true) : 0 ≤ a ∧ a < 4294967296 := by
  simp [Lit.wf, IntKind.min, IntKind.max, IntKind.signed, IntKind.bits] at h; omega
theorem u8s {l : List Int} (h : ∀ x ∈ l, (Lit.int .u8 x).wf = true) : Bytes l := fun x hx => by
  have := h x hx
  simp [Lit.wf, IntKind.min, IntKind.max, IntKind.signed, IntKind.bits] at this; omega
end Go.Proofs.Ytnehegnnpfdfbaa.Math
