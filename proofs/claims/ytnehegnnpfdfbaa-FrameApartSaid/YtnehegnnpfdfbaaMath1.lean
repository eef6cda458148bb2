/- The register of 32 bits: going on by bits is linear, loses nothing, and what is put in by up to 32 bits stands in it as it came. -/
namespace Go.Proofs.Ytnehegnnpfdfbaa.Math

def poly : BitVec 32 := 1947962583#32
def inB (x : Bool) : BitVec 32 := if x then 1#32 else 0#32
def stepV (s : BitVec 32) (x : Bool) : BitVec 32 := s <<< 1 ^^^ inB x ^^^ (if s.getLsbD 31 then poly else 0#32)
def run (s : BitVec 32) (bs : List Bool) : BitVec 32 := bs.foldl stepV s

theorem inB_xor (x y : Bool) : inB (x ^^ y) = inB x ^^^ inB y := by cases x <;> cases y <;> decide
theorem xor4 (a b c d : BitVec 32) : (a ^^^ b) ^^^ (c ^^^ d) = (a ^^^ c) ^^^ (b ^^^ d) := by
  rw [BitVec.xor_assoc, ← BitVec.xor_assoc b c d, BitVec.xor_comm b c, BitVec.xor_assoc c b d, ← BitVec.xor_assoc]
theorem step_lin (s t : BitVec 32) (x y : Bool) : stepV (s ^^^ t) (x ^^ y) = stepV s x ^^^ stepV t y := by
  have h : (if (s ^^^ t).getLsbD 31 then poly else 0#32) = (if s.getLsbD 31 then poly else 0#32) ^^^ (if t.getLsbD 31 then poly else 0#32) := by
    rw [BitVec.getLsbD_xor]
    cases s.getLsbD 31 <;> cases t.getLsbD 31 <;> simp
  unfold stepV
  rw [h, inB_xor, BitVec.shiftLeft_xor_distrib, xor4 (s <<< 1), xor4]
theorem run_nil (s : BitVec 32) : run s [] = s := rfl
theorem run_cons (s : BitVec 32) (x : Bool) (l : List Bool) : run s (x :: l) = run (stepV s x) l := rfl
theorem run_append (s : BitVec 32) (l m : List Bool) : run s (l ++ m) = run (run s l) m := by simp [run]
theorem run_lin : ∀ (l m : List Bool) (s t : BitVec 32), l.length = m.length → run (s ^^^ t) (List.zipWith (· ^^ ·) l m) = run s l ^^^ run t m
  | [], [], s, t, _ => rfl
  | x :: l, y :: m, s, t, h => by
    rw [List.zipWith_cons_cons, run_cons, run_cons, run_cons, step_lin]
    exact run_lin l m _ _ (by simpa using h)
  | [], _ :: _, _, _, h => by simp at h
  | _ :: _, [], _, _, h => by simp at h
theorem step_zero : stepV 0#32 false = 0#32 := by decide
theorem run_zero (n : Nat) : run 0#32 (List.replicate n false) = 0#32 := by
  induction n with
  | zero => rfl
  | succ n ih => rw [List.replicate_succ, run_cons, step_zero, ih]
theorem step_ker (d : BitVec 32) (h : stepV d false = 0#32) : d = 0#32 := by
  unfold stepV at h
  simp only [inB, Bool.false_eq_true, if_false, BitVec.xor_zero] at h
  by_cases hd : d.getLsbD 31 = true
  · rw [if_pos hd] at h
    have h0 := congrArg (fun v : BitVec 32 => v.getLsbD 0) h
    simp [poly] at h0
  · rw [if_neg hd, BitVec.xor_zero] at h
    apply BitVec.eq_of_getLsbD_eq
    intro i hi
    by_cases h31 : i = 31
    · subst h31; simpa using hd
    · have h1 := congrArg (fun v : BitVec 32 => v.getLsbD (i + 1)) h
      simp only [BitVec.getLsbD_shiftLeft, BitVec.getLsbD_zero] at h1
      have : i + 1 < 32 := by omega
      simpa [this] using h1
theorem step_inj (s t : BitVec 32) (x : Bool) (h : stepV s x = stepV t x) : s = t := by
  have h2 := step_lin s t x x
  rw [h, Bool.xor_self, BitVec.xor_self] at h2
  have h3 := step_ker _ h2
  have h4 : s ^^^ t ^^^ t = 0#32 ^^^ t := by rw [h3]
  rw [BitVec.xor_assoc, BitVec.xor_self, BitVec.xor_zero, BitVec.zero_xor] at h4
  exact h4
theorem run_inj : ∀ (l : List Bool) (s t : BitVec 32), run s l = run t l → s = t
  | [], _, _, h => h
  | x :: l, s, t, h => step_inj s t x (run_inj l _ _ h)
theorem snoc_rec {α : Type} {P : List α → Prop} (l : List α) (h0 : P []) (h1 : ∀ l x, P l → P (l ++ [x])) : P l := by
  have : ∀ m : List α, P m.reverse := by
    intro m
    induction m with
    | nil => exact h0
    | cons x m ih => rw [List.reverse_cons]; exact h1 _ _ ih
  have h := this l.reverse
  rwa [List.reverse_reverse] at h
theorem xor_one (a : Nat) : (2 * a) ^^^ 1 = 2 * a + 1 := by
  apply Nat.eq_of_testBit_eq
  intro i
  cases i with
  | zero => simp [Nat.testBit_xor]
  | succ i =>
    rw [Nat.testBit_xor, Nat.testBit_succ, Nat.testBit_succ, Nat.testBit_succ]
    rw [show 2 * a / 2 = a by omega, show (2 * a + 1) / 2 = a by omega]
    simp
/-- A number by its bits, the highest first. -/
def val (l : List Bool) : Nat := l.foldl (fun a x => 2 * a + x.toNat) 0
theorem val_snoc (l : List Bool) (x : Bool) : val (l ++ [x]) = 2 * val l + x.toNat := by simp [val]
theorem val_lt (l : List Bool) : val l < 2 ^ l.length := by
  refine snoc_rec (P := fun l => val l < 2 ^ l.length) l (by simp [val]) (fun l x ih => ?_)
  show val (l ++ [x]) < _
  rw [val_snoc, List.length_append, List.length_singleton, Nat.pow_succ]
  have := x.toNat_lt
  omega
theorem step_low (s : BitVec 32) (x : Bool) (h : s.toNat < 2 ^ 31) : (stepV s x).toNat = 2 * s.toNat + x.toNat := by
  have hm : s.getLsbD 31 = false := by
    rw [BitVec.getLsbD, Nat.testBit_lt_two_pow h]
  unfold stepV
  rw [hm]
  simp only [Bool.false_eq_true, if_false, BitVec.xor_zero, BitVec.toNat_xor, BitVec.toNat_shiftLeft]
  have e : s.toNat <<< 1 % 2 ^ 32 = 2 * s.toNat := by
    rw [Nat.shiftLeft_eq, Nat.pow_one, Nat.mul_comm]; exact Nat.mod_eq_of_lt (by omega)
  rw [e]
  cases x with
  | false => simp [inB]
  | true =>
    simp only [inB, if_true, Bool.toNat_true]
    show (2 * s.toNat) ^^^ 1 = 2 * s.toNat + 1
    exact xor_one _
theorem run_low (l : List Bool) : l.length ≤ 32 → (run 0#32 l).toNat = val l := by
  refine snoc_rec (P := fun l => l.length ≤ 32 → (run 0#32 l).toNat = val l) l (fun _ => rfl) (fun l x ih h => ?_)
  rw [List.length_append, List.length_singleton] at h
  have ih := ih (by omega)
  have hl := val_lt l
  have h2 : 2 ^ l.length ≤ 2 ^ 31 := Nat.pow_le_pow_right (by omega) (by omega)
  rw [run_append, run_cons, run_nil, step_low _ _ (by rw [ih]; omega), ih, val_snoc]
end Go.Proofs.Ytnehegnnpfdfbaa.Math
