/- Plain facts of the functions that go on by bytes: what Next, Before and Go answer, as rests by 65536; each is undone by the other. -/
import Derived.Test.YtjnkgccabgiocaaG5
import Derived.Test.YtjnkgccabgiocaaG7
import Derived.KernelRfl
namespace Go.Proofs.Ytjnkgccabgiocaa.Math
open Go.RowKit Go.Proofs.Ytjnkgccabgiocaa.G Go.Proofs.YtjnkgccabgiocaaW.PrintWords Go.Proofs.YtjnkgccabgiocaaW.PrintLast
set_option linter.unusedSimpArgs false
set_option linter.unusedVariables false

theorem u16_wrap (x : Int) : IntKind.u16.wrap x = x % 65536 := by simp [IntKind.wrap, IntKind.bits, IntKind.signed]
theorem wrap64_small (x : Int) (h0 : 0 ≤ x) (h1 : x < 9223372036854775808) : wrap64 x = x := by unfold wrap64; omega
theorem i64_range {a : Int} (h : (Lit.int .i64 a).wf = true) : -9223372036854775808 ≤ a ∧ a ≤ 9223372036854775807 := by
  simp [Lit.wf, IntKind.min, IntKind.max, IntKind.signed, IntKind.bits] at h; omega
theorem u8_range {a : Int} (h : (Lit.int .u8 a).wf = true) : 0 ≤ a ∧ a ≤ 255 := by
  simp [Lit.wf, IntKind.min, IntKind.max, IntKind.signed, IntKind.bits] at h; omega
/-- A byte on, as a rest. -/
def nx (a b : Int) : Int := (a * 40503 + b + 1) % 65536
def bf (a b : Int) : Int := ((a - b - 1) * 30599) % 65536
theorem nx_range (a b : Int) : 0 ≤ nx a b ∧ nx a b < 65536 := by unfold nx; omega
theorem bf_range (a b : Int) : 0 ≤ bf a b ∧ bf a b < 65536 := by unfold bf; omega
theorem nextI_eq (a b : Int) : nextI a b = nx a b := by
  unfold nextI nx
  simp only [u16_wrap]
  unfold wrap64
  omega
theorem next_eq (a b : Int) : mix_Next.f a b = some (nx a b) := by rw [← nextI_eq]; rfl
theorem mono_le {α : Type} {f : Nat → Option α} (hm : ∀ k, LeO (f k) (f (k + 1))) {r : α} {k : Nat} (d : Nat) (h : f k = some r) : f (k + d) = some r := by
  induction d with
  | zero => exact h
  | succ d ih => exact hm _ _ ih
theorem back_eq : mix_back.f 5 = some 30599 := by kernel_rfl
theorem back_ge (k : Nat) (h : 5 ≤ k) : mix_back.f k = some 30599 := by
  obtain ⟨d, rfl⟩ : ∃ d, k = 5 + d := ⟨k - 5, by omega⟩
  exact mono_le mix_back.mono d back_eq
theorem mulmod (x c : Int) : (x % 65536 * c) % 65536 = (x * c) % 65536 := by
  rw [Int.mul_emod, Int.emod_emod_of_dvd _ (Int.dvd_refl _), ← Int.mul_emod]
theorem before_eq (k : Nat) (h : 5 ≤ k) (a b : Int) : mix_Before.f k a b = some (bf a b) := by
  unfold mix_Before.f bf
  rw [back_ge k h]
  simp only [Option.bind_some, u16_wrap]
  congr 1
  rw [show ((a % 65536 - b % 65536) % 65536 - 1) % 65536 = (a - b - 1) % 65536 by omega, mulmod]
  exact wrap64_small _ (by omega) (by omega)
theorem wakes_eq (k : Nat) (h : 10 ≤ k) : garlandlaw04_wakes.f k = some true := by
  obtain ⟨d, rfl⟩ : ∃ d, k = 10 + d := ⟨k - 10, by omega⟩
  exact mono_le garlandlaw04_wakes.mono d (by kernel_rfl)
theorem tmod_nonneg (x c : Int) (h : 0 ≤ x) : Int.tmod x c = x % c := Int.tmod_eq_emod_of_nonneg h
theorem tmod_65536 (a : Int) : -65536 < Int.tmod a 65536 ∧ Int.tmod a 65536 < 65536 ∧ (Int.tmod a 65536) % 65536 = a % 65536 := by
  by_cases h : 0 ≤ a
  · rw [tmod_nonneg _ _ h]; omega
  · have e : Int.tmod a 65536 = -(Int.tmod (-a) 65536) := by rw [Int.neg_tmod]; omega
    rw [e, tmod_nonneg _ _ (by omega)]; omega
theorem place (a : Int) : Int.tmod (wrap64 (Int.tmod a 65536 + 65536)) 65536 = a % 65536 := by
  have h := tmod_65536 a
  rw [wrap64_small _ (by omega) (by omega), tmod_nonneg _ _ (by omega)]
  omega
theorem bf_nx (a b : Int) : bf (nx a b) b = a % 65536 := by
  unfold bf nx
  rw [← mulmod]
  rw [show ((a * 40503 + b + 1) % 65536 - b - 1) % 65536 = (a * 40503) % 65536 by omega, mulmod]
  omega
theorem nx_bf (a b : Int) : nx (bf a b) b = a % 65536 := by
  unfold bf nx
  omega
theorem nx_mod (a b : Int) : nx (a % 65536) b = nx a b := by unfold nx; omega
theorem bf_mod (a b : Int) : bf (a % 65536) b = bf a b := by unfold bf; omega
end Go.Proofs.Ytjnkgccabgiocaa.Math
