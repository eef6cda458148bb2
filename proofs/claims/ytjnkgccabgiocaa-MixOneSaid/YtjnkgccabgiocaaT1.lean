/- MixOne, the way through: one byte of the key is another one, and the places differ; from unlike places one key leads to unlike ones. -/
import Derived.Test.YtjnkgccabgiocaaT0
import Derived.Test.YtjnkgccabgiocaaG3
import Derived.Test.YtjnkgccabgiocaaG4
import Derived.Test.YtjnkgccabgiocaaMath3
import Derived.Lib.ConvBytes
import Derived.Laws.BytesArg
import Derived.WalkSpells
import Derived.WalkMore
namespace Go.Proofs.Ytjnkgccabgiocaa.G
open Go.RowKit Go.Proofs.YtjnkgccabgiocaaW.PrintWords Go.Proofs.YtjnkgccabgiocaaW.PrintLast Go.Proofs.YtjnkgccabgiocaaW.PrintMore
open Go.Proofs.Ytjnkgccabgiocaa.Math
set_option linter.unusedVariables false
set_option linter.unusedSimpArgs false


theorem nx_inj {a b c : Int} (h : nx a c = nx b c) : a % 65536 = b % 65536 := by rw [← bf_nx a c, ← bf_nx b c, h]
theorem nx_inj2 {a b c : Int} (hb : 0 ≤ b ∧ b ≤ 255) (hc : 0 ≤ c ∧ c ≤ 255) (h : nx a b = nx a c) : b = c := by unfold nx at h; omega
theorem fold_inj : ∀ (l : List Int) (a b : Int), 0 ≤ a ∧ a < 65536 → 0 ≤ b ∧ b < 65536 → l.foldl nx a = l.foldl nx b → a = b := by
  intro l
  induction l with
  | nil => intro a b _ _ h; exact h
  | cons c l ih =>
    intro a b ha hb h
    have := nx_inj (ih _ _ (nx_range a c) (nx_range b c) h)
    omega
theorem fold_set : ∀ (l : List Int) (i : Nat) (x : Int) (a : Int) (hi : i < l.length), (∀ y ∈ l, 0 ≤ y ∧ y ≤ 255) → 0 ≤ x ∧ x ≤ 255 → l[i] ≠ x → l.foldl nx a ≠ (l.set i x).foldl nx a := by
  intro l
  induction l with
  | nil => intro i x a hi; simp at hi
  | cons c l ih =>
    intro i x a hi hl hx hne
    cases i with
    | zero =>
      intro h
      rw [List.set_cons_zero, List.foldl_cons, List.foldl_cons] at h
      exact hne (nx_inj2 (hl c List.mem_cons_self) hx (fold_inj l _ _ (nx_range _ _) (nx_range _ _) h))
    | succ i =>
      rw [List.set_cons_succ, List.foldl_cons, List.foldl_cons]
      exact ih i x _ (by simpa using hi) (fun y hy => hl y (List.mem_cons_of_mem _ hy)) hx (by simpa using hne)
theorem goN_set (a : Int) (l : List Int) (i : Nat) (x : Int) (hi : i < l.length) (hl : ∀ y ∈ l, 0 ≤ y ∧ y ≤ 255) (hx : 0 ≤ x ∧ x ≤ 255) (hne : l[i] ≠ x) : goN a l ≠ goN a (l.set i x) := by
  unfold goN; exact fold_set l i x _ hi hl hx hne
theorem goN_iff (a b : Int) (l : List Int) : goN (a % 65536) l = goN (b % 65536) l ↔ a % 65536 = b % 65536 := by
  unfold goN
  constructor
  · intro h
    have := fold_inj l _ _ (by omega) (by omega) h
    omega
  · intro h; rw [h]
theorem u8_xor_nat (a b : Nat) (ha : a < 256) (hb : b < 256) : Go.bits .xor .u8 (a : Int) (b : Int) = ((a ^^^ b : Nat) : Int) := by
  have hx : a ^^^ b < 2 ^ 8 := Nat.xor_lt_two_pow (by omega) (by omega)
  have h1 : (BitVec.ofInt 8 (a : Int)).toNat = a := by
    rw [BitVec.ofInt_natCast, BitVec.toNat_ofNat]; exact Nat.mod_eq_of_lt (by omega)
  have h2 : (BitVec.ofInt 8 (b : Int)).toNat = b := by
    rw [BitVec.ofInt_natCast, BitVec.toNat_ofNat]; exact Nat.mod_eq_of_lt (by omega)
  show IntKind.u8.wrap ((BitVec.ofInt 8 (a : Int) ^^^ BitVec.ofInt 8 (b : Int)).toNat : Int) = _
  rw [BitVec.toNat_xor, h1, h2]
  simp only [IntKind.wrap, IntKind.bits, IntKind.signed]
  simp
  omega
theorem xor_facts (x m : Int) (hx : 0 ≤ x ∧ x ≤ 255) (hm : 1 ≤ m ∧ m ≤ 255) : (0 ≤ Go.bits .xor .u8 x m ∧ Go.bits .xor .u8 x m ≤ 255) ∧ x ≠ Go.bits .xor .u8 x m := by
  have h := u8_xor_nat x.toNat m.toNat (by omega) (by omega)
  rw [Int.toNat_of_nonneg hx.1, Int.toNat_of_nonneg (by omega)] at h
  have h2 := Nat.xor_lt_two_pow (n := 8) (x := x.toNat) (y := m.toNat) (by omega) (by omega)
  refine ⟨by omega, ?_⟩
  intro he
  rw [h] at he
  have h3 : x.toNat ^^^ (x.toNat ^^^ m.toNat) = x.toNat ^^^ x.toNat := by
    have : x.toNat ^^^ m.toNat = x.toNat := by omega
    rw [this]
  rw [← Nat.xor_assoc, Nat.xor_self, Nat.zero_xor] at h3
  omega
theorem set_range (l : List Int) (i : Nat) (x : Int) (hl : ∀ y ∈ l, 0 ≤ y ∧ y ≤ 255) (hx : 0 ≤ x ∧ x ≤ 255) : ∀ y ∈ l.set i x, 0 ≤ y ∧ y ≤ 255 := by
  intro y hy
  rcases List.mem_or_eq_of_mem_set hy with h | h
  · exact hl y h
  · rw [h]; exact hx
set_option maxRecDepth 100000 in
set_option maxHeartbeats 8000000 in
theorem MixOne_main (s : ByteArray) (at_ by_ p q : Int) (W : World) (h1 : 1 ≤ s.size) (h2 : s.size ≤ 20) (hby : 1 ≤ by_ ∧ by_ ≤ 255) (i : Nat) (hi : i < s.size)
    (hJ : Int.tmod (wrap64 (Int.tmod at_ (s.size : Int) + (s.size : Int))) (s.size : Int) = (i : Int)) :
    Calls Try.prog 5 #[.string s, .int .i64 at_, .int .u8 by_, .int .i64 p, .int .i64 q] W fun e w' => e = .returned (.bool true) ∧ Below W.heap.size W w' := by
  have hcv := fun (W : World) => Lib.run_convert_string_bytes (P := Try.prog) W 9 35 5 s Try.underlying9 Try.underlying35 Try.underlying5
  have hs1 : ¬ ((s.size : Int) < 1) := by omega
  have hs2 : ¬ (20 < (s.size : Int)) := by omega
  have hs3 : (s.size : Int) ≠ 0 := by omega
  have hb3 : (by_ == 0) = false := by simp; omega
  have hii : (0 : Int) ≤ (i : Int) := by omega
  have hil : (i : Int) < (s.size : Int) := by omega
  have hc : (Lib.bytesWorld W 5 s).cell? ⟨W.heap.size, i, none⟩ = some (.int .u8 (bt s (i : Int))) := by
    rw [Lib.bytesWorld_cell W 5 s i hi]
    simp [bt, hi, List.getD]
    rfl
  have hfz : (Lib.bytesWorld W 5 s).frozen? ⟨W.heap.size, i, none⟩ = false := by
    unfold World.frozen?
    rw [Lib.bytesWorld_at_new]
    have : i < (Lib.bytesCells W 5 s).size := by
      unfold Lib.bytesCells
      rw [Array.size_append, Array.size_map, Array.size_replicate]
      have : s.data.size = s.size := rfl
      omega
    simp
    omega
  obtain ⟨x, hx⟩ : ∃ x, Go.bits .xor .u8 (bt s (i : Int)) by_ = x := ⟨_, rfl⟩
  obtain ⟨W2, hW2⟩ : ∃ W2, (Lib.bytesWorld W 5 s).setCell ⟨W.heap.size, i, none⟩ (.int .u8 x) = W2 := ⟨_, rfl⟩
  have hB1 : Below W.heap.size W (Lib.bytesWorld W 5 s) := bytes_below (Below.refl _ _) (Nat.le_refl _) 5 s
  have hB2 : Below W.heap.size W W2 := by rw [← hW2]; exact hB1.setCell (p := ⟨W.heap.size, i, none⟩) (Nat.le_refl _) _
  have hll : ((nums s).set i x).length = s.size := by rw [List.length_set, nums_len]
  have hr2 : Kd.C (Kd.int .u8) W2 (some ⟨W.heap.size, 0, none⟩) s.size ((nums s).set i x) := by
    refine Kd.C_of_reads (h1 := fun _ => rfl) (d := 0) ⟨hll, by omega, fun _ => ⟨_, rfl, fun j hj => ?_⟩⟩
    have e : (({ block := W.heap.size, off := 0 } : Addr).add j) = (⟨W.heap.size, j, none⟩ : Addr) := by unfold Addr.add; split <;> simp_all
    rw [← hW2, e]
    by_cases hji : j = i
    · subst hji
      rw [World.cell?_setCell_same _ _ _ hc]
      simp [List.getD, hj, nums_len]
    · rw [World.cell?_setCell_other _ _ _ _ (by intro e2; cases e2; exact hji rfl), Lib.bytesWorld_cell W 5 s j hj]
      have hbj := bt_nums s j hj
      have h2 : bt s (j : Int) = ((s.data.toList.getD j 0).toNat : Int) := by simp [bt, hj, List.getD]; rfl
      have h3 : ((nums s).set i x).getD j 0 = bt s (j : Int) := by
        rw [hbj, List.getD_eq_getElem?_getD, List.getElem?_set_ne (fun e => hji e.symm)]
        simp [hj, nums_len]
      rw [h3, h2]
  have hcv2 : ∀ w', Below W2.heap.size W2 w' → (convert 35 9 (.slice (some ⟨W.heap.size, 0, none⟩) s.size (grownCap W s.size 0 5))).run Try.prog w' = .ok (.string (strOfNums ((nums s).set i x))) w' := fun w' hb => Kd.C_string Try.underlying35 Try.underlying5 Try.underlying9 (Kd.C_below hr2 hb)
  have hin : i < (nums s).length := by rw [nums_len]; exact hi
  have hbi : bt s (i : Int) = (nums s)[i] := bt_nums s i hi
  have hxf := xor_facts _ _ (nums_range s _ (List.getElem_mem hin)) hby
  rw [← hbi, hx] at hxf
  have hset := set_range (nums s) i x (nums_range s) hxf.1
  have hof1 : mix_Of.f s = some (goN 7 (nums s), 0) := by rw [of_eq]; unfold Math.keyOf; rw [if_neg (by omega), if_neg (by omega)]
  have hls : (strOfNums ((nums s).set i x)).size = s.size := by rw [strOfNums_size, hll]
  have hof2 : mix_Of.f (strOfNums ((nums s).set i x)) = some (goN 7 ((nums s).set i x), 0) := by
    rw [of_eq]; unfold Math.keyOf; rw [if_neg (by omega), if_neg (by omega), nums_strOfNums _ hset]
  have hgo : ∀ a, mix_Go.f a s = some (goN a (nums s)) := fun a => go_eq a s (by omega)
  have hne : (goN 7 (nums s) != goN 7 ((nums s).set i x)) = true := by
    have := goN_set 7 (nums s) i x hin (nums_range s) hxf.1 (by rw [← hbi]; exact hxf.2)
    simpa using this
  obtain ⟨P, hP⟩ : ∃ P, Int.tmod (wrap64 (Int.tmod p 65536 + 65536)) 65536 = P := ⟨_, rfl⟩
  obtain ⟨Q, hQ⟩ : ∃ Q, Int.tmod (wrap64 (Int.tmod q 65536 + 65536)) 65536 = Q := ⟨_, rfl⟩
  have hiff : (goN P (nums s) == goN Q (nums s)) = (P == Q) := by
    rw [← hP, ← hQ, place, place]
    have := goN_iff p q (nums s)
    by_cases h : p % 65536 = q % 65536
    · rw [h]; simp
    · have h2 := fun h3 => h (this.mp h3)
      rw [beq_eq_false_iff_ne.mpr h, beq_eq_false_iff_ne.mpr h2]
  have HCV := Aside0.mk hcv2
  have HNE := Aside0.mk hne
  have HIFF := Aside0.mk hiff
  have HP := Aside0.mk hP
  have HQ := Aside0.mk hQ
  have HGO := Aside0.mk hgo
  clear hcv2 hP hQ hxf hset hbi
  go_enter Try.func5, Try.ntmps5
  go_upto_region 6 with (fail)
  have HB := Aside0.mk hB2
  clear hcv hJ hc hfz hx hW2 hB1 hB2 hr2 hne hiff hgo
  go_upto_region 7 with (go_at_call 9; refine (mix_Of.calls s _ _ _ hof1).mono ?_; rintro e w3 ⟨rfl, hb3⟩; have HB3 := Aside0.mk hb3; clear hb3)
  have hcv3 := HCV.out _ HB3.out
  go_upto_region 8 with (go_at_call 9; refine (mix_Of.calls (strOfNums ((nums s).set i x)) _ _ _ hof2).mono ?_; rintro e w4 ⟨rfl, hb4⟩; have HB4 := Aside0.mk hb4; clear hb4)
  clear hcv3
  have hne := HNE.out
  have hiff := HIFF.out
  have hgo := HGO.out
  have hP := HP.out
  have hQ := HQ.out
  go_upto_region 9 with (fail)
  have HB := Aside0.mk ((HB.out.trans (HB3.out.mono HB.out.size)).trans (HB4.out.mono ((HB.out.trans (HB3.out.mono HB.out.size))).size))
  go_wp2_with (first | (go_at_call 17; refine (mix_Go.calls _ s _ _ (hgo _)).mono ?_; rintro e w5 ⟨rfl, hb5⟩; have HB := Aside0.mk (HB.out.trans (hb5.mono HB.out.size)); clear hb5) | (go_at_call 8; refine (garlandlaw04_wakes.calls 10 true _ (wakes_eq 10 (by decide))).mono ?_; rintro e w5 ⟨rfl, hb5⟩; have HB := Aside0.mk (HB.out.trans (hb5.mono HB.out.size)); clear hb5))
  go_ret
  exact ⟨rfl, HB.out⟩

theorem place_tmod (a n : Int) (hn : 0 < n) (h1 : n ≤ 1000000000) : 0 ≤ Int.tmod (wrap64 (Int.tmod a n + n)) n ∧ Int.tmod (wrap64 (Int.tmod a n + n)) n < n := by
  have h := Int.tmod_lt_of_pos a hn
  have h2 : -n < Int.tmod a n := by
    by_cases h : 0 ≤ a
    · rw [Int.tmod_eq_emod_of_nonneg h]; have := Int.emod_nonneg a (show n ≠ 0 by omega); omega
    · have e : Int.tmod a n = -(Int.tmod (-a) n) := by rw [Int.neg_tmod]; omega
      rw [e]; have := Int.tmod_lt_of_pos (-a) hn; omega
  rw [wrap64_small _ (by omega) (by omega), Int.tmod_eq_emod_of_nonneg (by omega)]
  exact ⟨Int.emod_nonneg _ (by omega), Int.emod_lt_of_pos _ hn⟩
end Go.Proofs.Ytjnkgccabgiocaa.G
namespace Go.Proofs.Ytjnkgccabgiocaa.Pure
open Go.RowKit Go.Proofs.Ytjnkgccabgiocaa.G Go.Proofs.YtjnkgccabgiocaaW.PrintWords Go.Proofs.Ytjnkgccabgiocaa.Math
theorem MixOne_walk (a0 : ByteArray) (a1 a2 a3 a4 : Int) (W : World) (w2 : (Lit.int .u8 a2).wf = true) :
    Calls Try.prog 5 #[.string a0, .int .i64 a1, .int .u8 a2, .int .i64 a3, .int .i64 a4] W fun e w' => e = .returned (.bool true) ∧ Below W.heap.size W w' := by
  have hb := u8_range w2
  by_cases h : a0.size < 1 ∨ 20 < a0.size ∨ a2 = 0
  · exact MixOne_short a0 a1 a2 a3 a4 W h
  · have hp := place_tmod a1 (a0.size : Int) (by omega) (by omega)
    refine MixOne_main a0 a1 a2 a3 a4 W (by omega) (by omega) (by omega) (Int.tmod (wrap64 (Int.tmod a1 (a0.size : Int) + (a0.size : Int))) (a0.size : Int)).toNat (by omega) ?_
    rw [Int.toNat_of_nonneg hp.1]
end Go.Proofs.Ytjnkgccabgiocaa.Pure
