/- Numbers as bytes: what is put is taken; what is taken was put. -/
import Derived.Test.YtnaohcimmafhkaaG2
import Derived.Test.YtnaohcimmafhkaaG7
import Derived.Laws.BitsLemmas
namespace Go.Proofs.Ytnaohcimmafhkaa.Math
open Go.RowKit Go.Proofs.Ytnaohcimmafhkaa.G Go.Proofs.YtnaohcimmafhkaaW.PrintWords

def Bytes (l : List Int) : Prop := ∀ x ∈ l, 0 ≤ x ∧ x < 256
theorem Bytes.nil : Bytes [] := fun x hx => by simp at hx
theorem Bytes.cons {x : Int} {l : List Int} (h : 0 ≤ x ∧ x < 256) (hl : Bytes l) : Bytes (x :: l) := fun y hy => by
  rcases List.mem_cons.1 hy with rfl | hy
  · exact h
  · exact hl y hy
theorem Bytes.append {a b : List Int} (ha : Bytes a) (hb : Bytes b) : Bytes (a ++ b) := fun x hx => by
  rcases List.mem_append.1 hx with h | h
  · exact ha x h
  · exact hb x h
theorem Bytes.tail {x : Int} {l : List Int} (h : Bytes (x :: l)) : Bytes l := fun y hy => h y (List.mem_cons_of_mem x hy)
theorem Bytes.take {l : List Int} (h : Bytes l) (n : Nat) : Bytes (l.take n) := fun x hx => h x (List.mem_of_mem_take hx)
theorem Bytes.drop {l : List Int} (h : Bytes l) (n : Nat) : Bytes (l.drop n) := fun x hx => h x (List.mem_of_mem_drop hx)
theorem Bytes.reverse {l : List Int} (h : Bytes l) : Bytes l.reverse := fun x hx => h x (List.mem_reverse.1 hx)

theorem low_ind {P : Nat → Prop} (h0 : P 0) (h1 : ∀ N, 0 < N → P (N / 256) → P N) (N : Nat) : P N := by
  induction N using Nat.strongRecOn with
  | ind N ih =>
    rcases Nat.eq_zero_or_pos N with rfl | hp
    · exact h0
    · exact h1 N hp (ih _ (by omega))

theorem low_bytes (N : Nat) : Bytes (low N) := by
  induction N using low_ind with
  | h0 => rw [low_zero]; exact Bytes.nil
  | h1 N hp ih => rw [low_pos hp]; exact Bytes.cons (by omega) ih
theorem low_last (N : Nat) : 0 < N → ∃ t x, low N = t ++ [x] ∧ 0 < x := by
  induction N using low_ind with
  | h0 => intro h; omega
  | h1 N hp ih =>
    intro _
    rw [low_pos hp]
    rcases Nat.eq_zero_or_pos (N / 256) with h | h
    · exact ⟨[], (N : Int) % 256, by rw [h, low_zero]; rfl, by omega⟩
    · obtain ⟨t, x, e, hx⟩ := ih h
      exact ⟨(N : Int) % 256 :: t, x, by rw [e]; rfl, hx⟩

theorem wraps_i64 : ∀ n : Int, 0 ≤ n → n < 2 ^ 63 → IntKind.i64.wrap n = n := fun n h0 h1 => by
  rw [IntKind.wrap_i64]; omega
theorem or_add (n x : Int) (h0 : 0 ≤ n) (h1 : n < 2 ^ 50) (hx : 0 ≤ x ∧ x < 256) : Go.bits .or .i64 (wrap64 (n * 256)) x = n * 256 + x := by
  have hw : wrap64 (n * 256) = n * 256 := by unfold wrap64; omega
  rw [hw]
  exact bits_join .i64 63 (by decide) wraps_i64 8 (n * 256) x (by omega) (by omega) (by omega) hx.1 (by omega) (by omega)

theorem snoc_rec {α : Type} {P : List α → Prop} (h0 : P []) (h1 : ∀ l x, P l → P (l ++ [x])) (l : List α) : P l := by
  have : ∀ m : List α, P m.reverse := by
    intro m
    induction m with
    | nil => exact h0
    | cons x m ih => rw [List.reverse_cons]; exact h1 _ _ ih
  have h := this l.reverse
  rwa [List.reverse_reverse] at h

theorem pow_le : ∀ k : Nat, k ≤ 5 → (256 : Int) ^ k ≤ 1099511627776
  | 0, _ | 1, _ | 2, _ | 3, _ | 4, _ | 5, _ => by decide
  | k + 6, h => by omega

/-- What bytes tell lies below 256 to their number. -/
theorem numOf_lt (d : List Int) : Bytes d → d.length ≤ 6 → 0 ≤ numOf d ∧ numOf d < 256 ^ d.length := by
  induction d using snoc_rec with
  | h0 => intro _ _; exact ⟨by simp [numOf], by simp [numOf]⟩
  | h1 l x ih =>
    intro hb hl
    rw [List.length_append, List.length_singleton] at hl ⊢
    obtain ⟨h0, h1⟩ := ih (fun y hy => hb y (List.mem_append_left _ hy)) (by omega)
    have hx := hb x (List.mem_append_right _ (List.mem_singleton.2 rfl))
    have hp := pow_le l.length (by omega)
    rw [numOf_snoc, or_add _ _ h0 (by omega) hx, Int.pow_succ]
    exact ⟨by omega, by omega⟩
theorem numOf_add (l : List Int) (x : Int) (hb : Bytes (l ++ [x])) (hl : l.length ≤ 5) : numOf (l ++ [x]) = numOf l * 256 + x := by
  have h := numOf_lt l (fun y hy => hb y (List.mem_append_left _ hy)) (by omega)
  have hp := pow_le l.length hl
  rw [numOf_snoc, or_add _ _ h.1 (by omega) (hb x (List.mem_append_right _ (List.mem_singleton.2 rfl)))]

theorem numOf_low (N : Nat) : N ≤ 1099511627776 → numOf (low N).reverse = (N : Int) := by
  induction N using low_ind with
  | h0 => intro _; rw [low_zero]; rfl
  | h1 N hp ih =>
    intro hN
    have hl : (low (N / 256)).length ≤ 5 := low_len 5 _ (by omega)
    have hb : Bytes (low N).reverse := (low_bytes N).reverse
    rw [low_pos hp, List.reverse_cons] at hb ⊢
    rw [numOf_add _ _ hb (by simpa using hl), ih (by omega)]
    omega

/-- Bytes that begin with no 0 are those of the number that they tell. -/
theorem low_numOf (d : List Int) : Bytes d → d.length ≤ 6 → (d = [] ∨ 0 < d.headD 0) → low (numOf d).toNat = d.reverse ∧ (d ≠ [] → 0 < numOf d) := by
  induction d using snoc_rec with
  | h0 => intro _ _ _; exact ⟨by simp [numOf, low_zero], fun h => absurd rfl h⟩
  | h1 l x ih =>
    intro hb hl hh
    rw [List.length_append, List.length_singleton] at hl
    have hbl : Bytes l := fun y hy => hb y (List.mem_append_left _ hy)
    have hx := hb x (List.mem_append_right _ (List.mem_singleton.2 rfl))
    have hh2 : 0 < (l ++ [x]).headD 0 := by
      rcases hh with h | h
      · simp at h
      · exact h
    have hl0 := numOf_lt l hbl (by omega)
    have hpos : l = [] ∨ 0 < l.headD 0 := by
      cases l with
      | nil => exact .inl rfl
      | cons y l => exact .inr hh2
    obtain ⟨h1, h2⟩ := ih hbl (by omega) hpos
    have hv := numOf_add l x hb (by omega)
    have hp : 0 < numOf (l ++ [x]) := by
      rw [hv]
      cases l with
      | nil => simp at hh2; omega
      | cons y l => have := h2 (by simp); omega
    refine ⟨?_, fun _ => hp⟩
    rw [low_pos (by omega), List.reverse_append, List.reverse_singleton]
    have e1 : (((numOf (l ++ [x])).toNat : Nat) : Int) % 256 = x := by rw [hv]; omega
    have e2 : (numOf (l ++ [x])).toNat / 256 = (numOf l).toNat := by rw [hv]; omega
    rw [e1, e2, h1]
    rfl

/-- A number's bytes: how many, and they, the highest first. -/
def enc (N : Nat) : List Int := ((low N).length : Int) :: (low N).reverse
theorem enc_len (N : Nat) : (enc N).length = (low N).length + 1 := by simp [enc]
theorem enc_bytes (N : Nat) (h : N ≤ 1099511627776) : Bytes (enc N) := by
  have hl : (low N).length ≤ 6 := low_len 6 N (by omega)
  exact Bytes.cons (by omega) (low_bytes N).reverse

theorem reverse_eq (l : List Int) (h : l.length ≤ 7) : slices_Reverse_byte_byte.f 10 l = some l.reverse := by
  match l, h with
  | [], _ | [_], _ | [_, _], _ | [_, _, _], _ | [_, _, _, _], _ | [_, _, _, _, _], _ | [_, _, _, _, _, _], _ | [_, _, _, _, _, _, _], _ => simp [slices_Reverse_byte_byte.f, slices_Reverse_byte_byte.l0, wrap64, rd]
  | _ :: _ :: _ :: _ :: _ :: _ :: _ :: _ :: _, h => simp at h

theorem put_ok (N : Nat) (h : N ≤ 1099511627776) : num_Put.f (N : Int) = some (enc N, 0) := by
  have hl : (low N).length ≤ 6 := low_len 6 N (by omega)
  unfold num_Put.f
  rw [if_neg (by omega), Int.toNat_natCast, reverse_eq _ (by simp; omega), List.reverse_append]
  rfl
theorem put_bad (a : Int) (h : a < 0 ∨ 1099511627776 < a) : num_Put.f a = some ([], 2) := by
  unfold num_Put.f
  rw [if_pos h]

theorem take_ok (N : Nat) (h : N ≤ 1099511627776) (r : List Int) (hr : Bytes r) (hl : r.length ≤ 999999000) : num_Take.f (enc N ++ r) = some ((N : Int), r, 0) := by
  have h6 : (low N).length ≤ 6 := low_len 6 N (by omega)
  have hb := (enc_bytes N h).append hr
  have hrl : (low N).reverse.length = (low N).length := List.length_reverse
  unfold num_Take.f
  rw [if_pos ⟨hb, by rw [List.length_append, enc_len]; omega⟩, if_neg (by rw [List.length_append, enc_len]; omega)]
  have e1 : (enc N ++ r).headD 0 = ((low N).length : Int) := rfl
  have e2 : (enc N ++ r).drop 1 = (low N).reverse ++ r := rfl
  rw [e1, e2, Int.toNat_natCast, if_neg (by omega), if_neg (by rw [List.length_append, enc_len]; omega)]
  rw [List.take_left' hrl, List.drop_left' hrl, numOf_low N h]
  rw [if_pos]
  rcases Nat.eq_zero_or_pos N with rfl | hp
  · exact .inl (by rw [low_zero]; rfl)
  · obtain ⟨t, x, e, hx⟩ := low_last N hp
    refine .inr ⟨?_, by omega⟩
    rw [e, List.reverse_append]
    exact hx

theorem take_short (N : Nat) (h : N ≤ 1099511627776) : num_Take.f ((enc N).take ((enc N).length - 1)) = some (0, [], 11) := by
  have h6 : (low N).length ≤ 6 := low_len 6 N (by omega)
  have hb := (enc_bytes N h).take ((enc N).length - 1)
  have hrl : (low N).reverse.length = (low N).length := List.length_reverse
  unfold num_Take.f
  have hlen : ((enc N).take ((enc N).length - 1)).length = (low N).length := by rw [List.length_take, enc_len]; omega
  rw [if_pos ⟨hb, by rw [hlen]; omega⟩, hlen]
  by_cases h0 : (low N).length = 0
  · rw [if_pos h0]
  · rw [if_neg h0]
    have e1 : ((enc N).take ((enc N).length - 1)).headD 0 = ((low N).length : Int) := by
      rw [enc_len]
      obtain ⟨n, hn⟩ : ∃ n, (low N).length = n + 1 := ⟨(low N).length - 1, by omega⟩
      rw [hn]
      unfold enc
      rw [hn]
      rfl
    rw [e1, if_neg (by omega), if_pos (by omega)]

/-- What is taken has just those bytes that were there. -/
theorem take_only (l : List Int) (hb : Bytes l) (hl : l.length ≤ 1000000000) (n e : Int) (p : List Int) (h : num_Take.f l = some (n, p, e)) :
    (e = 0 ∧ 0 ≤ n ∧ n ≤ 1099511627776 ∧ l = enc n.toNat ++ p ∧ Bytes p) ∨ (n = 0 ∧ p = [] ∧ (e = 11 ∨ e = 12)) := by
  unfold num_Take.f at h
  rw [if_pos ⟨hb, hl⟩] at h
  cases l with
  | nil =>
    obtain ⟨rfl, rfl, rfl⟩ := by simpa using h
    exact .inr ⟨rfl, rfl, .inl rfl⟩
  | cons b t =>
    have hbb := hb b List.mem_cons_self
    have hbt := hb.tail
    simp only [List.length_cons, Nat.add_eq_zero_iff, Nat.one_ne_zero, and_false, if_false, List.headD_cons, List.drop_succ_cons, List.drop_zero] at h
    split at h
    · obtain ⟨rfl, rfl, rfl⟩ := by simpa using h
      exact .inr ⟨rfl, rfl, .inr rfl⟩
    split at h
    · obtain ⟨rfl, rfl, rfl⟩ := by simpa using h
      exact .inr ⟨rfl, rfl, .inl rfl⟩
    split at h
    · rename_i h6 hs hc
      obtain ⟨m, rfl⟩ : ∃ m : Nat, b = (m : Int) := ⟨b.toNat, by omega⟩
      simp only [Int.toNat_natCast, Option.some.injEq, Prod.mk.injEq] at h hc
      obtain ⟨rfl, rfl, rfl⟩ := h
      have hml : (t.take m).length = m := by rw [List.length_take]; omega
      have hbm := hbt.take m
      have hlt := numOf_lt (t.take m) hbm (by omega)
      have hh : t.take m = [] ∨ 0 < (t.take m).headD 0 := by
        cases m with
        | zero => exact .inl rfl
        | succ m =>
          rcases hc with hc | hc
          · omega
          · cases t with
            | nil => exact .inl rfl
            | cons y t => exact .inr hc.1
      obtain ⟨e1, e2⟩ := low_numOf (t.take m) hbm (by omega) hh
      have hmax : numOf (t.take m) ≤ 1099511627776 := by
        rcases hc with hc | hc
        · obtain rfl : m = 0 := by omega
          simp [numOf]
        · exact hc.2
      refine .inl ⟨rfl, hlt.1, hmax, ?_, hbt.drop m⟩
      unfold enc
      rw [e1, List.reverse_reverse, List.length_reverse, hml, List.cons_append, List.take_append_drop]
    · obtain ⟨rfl, rfl, rfl⟩ := by simpa using h
      exact .inr ⟨rfl, rfl, .inr rfl⟩

theorem enc_inj {N M : Nat} (hN : N ≤ 1099511627776) (hM : M ≤ 1099511627776) (h : enc N = enc M) : N = M := by
  have h1 := take_ok N hN [] Bytes.nil (by simp)
  have h2 := take_ok M hM [] Bytes.nil (by simp)
  rw [h, h2] at h1
  have := congrArg (fun o : Option (Int × List Int × Int) => o.map Prod.fst) h1
  simp at this
  omega
end Go.Proofs.Ytnaohcimmafhkaa.Math
