/- Two payloads that are framed have one frame just if they are the same; a frame is as long as told; of the one's head ahead of the other's rest nothing is opened but what stands there. -/
import Derived.Test.YtnehegnnpfdfbaaG12
import Derived.Test.YtnehegnnpfdfbaaPureFrameOnly
namespace Go.Proofs.Ytnehegnnpfdfbaa.Pure
open Go.RowKit Go.Proofs.Ytnehegnnpfdfbaa.G Go.Proofs.Ytnehegnnpfdfbaa.Math Go.Proofs.YtnehegnnpfdfbaaW.PrintWords Go.Proofs.YtnehegnnpfdfbaaW.PrintMore

theorem frame_inj (p q : List Int) (h : frameOf p = frameOf q) : p = q := by
  rw [← frame_mid p, ← frame_mid q, h]
theorem apart_j2 (p q : List Int) (hp : Bytes p) (hq : Bytes q) (hn : p.length ≤ 112) (hpq : p.length = q.length) (h0 : 0 < p.length) (at_ : Int) (k : Nat) :
    garlandlaw05_FrameApart.j2 (k + 1) p q at_ (frameOf p) (frameOf q) false = some true := by
  have hbp := frame_bytes p hp
  have hbq := frame_bytes q hq
  have hlp := frame_len p
  have hlq := frame_len q
  have hop := open_frame p hp hn
  have hs := same_eq p q hp hq
  have hinj := frame_inj p q
  have hsame : p = q → frameOf p = frameOf q := fun h => by rw [h]
  simp only [garlandlaw05_FrameApart.j2]
  generalize frameOf p = F at *
  generalize frameOf q = G at *
  rw [wrap64_small ((p.length : Int) + 1) (by omega) (by omega)]
  have hm : Int.tmod at_ ((p.length : Int) + 1) < (p.length : Int) + 1 ∧ -((p.length : Int) + 1) < Int.tmod at_ ((p.length : Int) + 1) := by
    refine ⟨Int.tmod_lt_of_pos at_ (by omega), ?_⟩
    by_cases h : 0 ≤ at_
    · rw [Int.tmod_eq_emod_of_nonneg h]; have := Int.emod_nonneg at_ (show ((p.length : Int) + 1) ≠ 0 by omega); omega
    · have e : Int.tmod at_ ((p.length : Int) + 1) = -(Int.tmod (-at_) ((p.length : Int) + 1)) := by rw [Int.neg_tmod]; omega
      rw [e]; have := Int.tmod_lt_of_pos (-at_) (show (0 : Int) < (p.length : Int) + 1 by omega); omega
  have hx : ∃ x : Nat, wrap64 (4 + Int.tmod (wrap64 (wrap64 (Int.tmod at_ ((p.length : Int) + 1) + (p.length : Int)) + 1)) ((p.length : Int) + 1)) = x ∧ 4 ≤ x ∧ x ≤ p.length + 4 := by
    rw [wrap64_small (Int.tmod at_ ((p.length : Int) + 1) + (p.length : Int)) (by omega) (by omega), wrap64_small (_ + 1) (by omega) (by omega), Int.tmod_eq_emod_of_nonneg (by omega)]
    have h1 := Int.emod_nonneg (Int.tmod at_ ((p.length : Int) + 1) + (p.length : Int) + 1) (show ((p.length : Int) + 1) ≠ 0 by omega)
    have h2 := Int.emod_lt_of_pos (Int.tmod at_ ((p.length : Int) + 1) + (p.length : Int) + 1) (show (0 : Int) < (p.length : Int) + 1 by omega)
    generalize (Int.tmod at_ ((p.length : Int) + 1) + (p.length : Int) + 1) % ((p.length : Int) + 1) = y at h1 h2
    refine ⟨(4 + y).toNat, ?_, by omega, by omega⟩
    rw [wrap64_small _ (by omega) (by omega)]; omega
  obtain ⟨x, hx, hx1, hx2⟩ := hx
  rw [hx]
  simp only [Bool.false_eq_true, if_false, Option.bind_some, List.nil_append, List.length_nil, Int.toNat_natCast]
  have e1 : (F.take x).length = x := by rw [List.length_take]; omega
  have e2 : (G.drop x).length = p.length + 8 - x := by rw [List.length_drop]; omega
  have hc : Bytes (F.take x ++ G.drop x) := (hbp.take x).app (hbq.drop x)
  have hcl : (F.take x ++ G.drop x).length = p.length + 8 := by rw [List.length_append, e1, e2]; omega
  have hfc : p = q → openOf (F.take x ++ G.drop x) = (p, 0) := fun h => by rw [← hsame h, List.take_append_drop, hop]
  rw [if_neg (by omega), if_pos (by omega), if_pos (by omega), if_pos (by omega), if_pos (by omega), if_pos (by omega)]
  generalize F.take x ++ G.drop x = c at hc hcl hfc
  rw [open_eq c hc (by omega), Option.bind_some]
  by_cases hz : (openOf c).2 = 0
  · rw [if_pos hz, wrap64_small _ (by omega) (by omega), if_pos (by omega), if_pos (by omega), show ((c.length : Int) - 4).toNat = c.length - 4 by omega]
    have ho : (openOf c).1 = (c.take (c.length - 4)).drop 4 := by
      unfold openOf at hz ⊢
      rw [if_neg (by omega)] at hz ⊢
      by_cases hf : isFrame c
      · rw [if_pos hf]
      · rw [if_neg hf] at hz; exact absurd hz (by decide)
    have hcm : Bytes ((c.take (c.length - 4)).drop 4) := (hc.take _).drop _
    rw [ho, same_eq _ _ hcm hcm, Option.bind_some, if_pos (decide_eq_true rfl), hs, Option.bind_some, wakes_true]
    split <;> rfl
  · rw [if_neg hz, hs, Option.bind_some]
    by_cases hpe : p = q
    · exact absurd (by rw [hfc hpe]) hz
    · rw [if_neg (by simpa using hpe), wakes_true]; rfl
theorem apart_fine (p q : List Int) (hp : Bytes p) (hq : Bytes q) (hn : p.length ≤ 112) (hm : q.length ≤ 112) (at_ : Int) (k : Nat) : garlandlaw05_FrameApart.j0 (k + 1 + 1 + 1) p q at_ false = some true := by
  have cp := close_eq p hn
  have cq := close_eq q hm
  have hlp := frame_len p
  have hlq := frame_len q
  have h1 := same_eq _ _ (frame_bytes p hp) (frame_bytes q hq)
  have h2 := same_eq _ _ hp hq
  have e : (decide (frameOf p = frameOf q) != decide (p = q)) = false := by
    rw [bne_eq_false_iff_eq, decide_eq_decide]
    exact ⟨frame_inj p q, fun h => by rw [h]⟩
  have hj2 : p.length = q.length → 0 < p.length → garlandlaw05_FrameApart.j2 (k + 1) p q at_ (frameOf p) (frameOf q) false = some true := fun h h0 => apart_j2 p q hp hq hn h h0 at_ k
  have hj2t : ∀ F G : List Int, garlandlaw05_FrameApart.j2 (k + 1) p q at_ F G true = some true := fun F G => by
    simp only [garlandlaw05_FrameApart.j2, if_true, wakes_true]; rfl
  generalize frameOf p = F at *
  generalize frameOf q = G at *
  have hj1 : garlandlaw05_FrameApart.j1 (k + 1 + 1) p q at_ F G false = some true := by
    simp only [garlandlaw05_FrameApart.j1]
    rw [if_neg (by decide)]
    by_cases h : p.length = q.length
    · rw [if_pos (by omega)]
      by_cases h0 : p.length = 0
      · rw [show ((p.length : Int) == 0) = true by simp [h0]]; exact hj2t F G
      · rw [show ((p.length : Int) == 0) = false by rw [beq_eq_false_iff_ne]; omega]; exact hj2 h (by omega)
    · rw [if_neg (by omega)]; exact hj2t F G
  simp only [garlandlaw05_FrameApart.j0]
  rw [if_neg (by decide), cp, Option.bind_some, cq, Option.bind_some, if_pos rfl, if_pos rfl]
  dsimp only
  rw [wrap64_small _ (by omega) (by omega), wrap64_small _ (by omega) (by omega), if_pos (by omega), if_pos (by omega), size_eq _ hn, Option.bind_some, if_pos (by omega), h1, Option.bind_some, h2, Option.bind_some, e]
  exact hj1
theorem FrameApart : garlandlaw05_FrameApart.Pure := by
  intro p q at_ _ hp1 hp _ hq1 hq _
  have hp := u8s hp
  have hq := u8s hq
  refine ⟨0 + 1 + 1 + 1, ?_⟩
  have ht : garlandlaw05_FrameApart.j0 (0 + 1 + 1 + 1) p q at_ true = some true := by
    simp only [garlandlaw05_FrameApart.j0, if_true, wakes_true]; rfl
  unfold garlandlaw05_FrameApart.f
  by_cases h : (p.length : Int) > 112
  · rw [if_pos h]; exact ht
  · rw [if_neg h]
    by_cases h2 : (q.length : Int) > 112
    · rw [decide_eq_true h2]; exact ht
    · rw [decide_eq_false h2]
      exact apart_fine p q hp hq (by omega) (by omega) at_ 0
end Go.Proofs.Ytnehegnnpfdfbaa.Pure
