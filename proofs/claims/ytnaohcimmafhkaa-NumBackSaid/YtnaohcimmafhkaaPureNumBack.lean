/- A number that is put is taken, whatever stands behind; of two numbers the bytes are the same just if they are; with a byte fewer it is too short. -/
import Derived.Test.YtnaohcimmafhkaaG14
import Derived.Test.YtnaohcimmafhkaaMath3
namespace Go.Proofs.Ytnaohcimmafhkaa.Pure
open Go.RowKit Go.Proofs.Ytnaohcimmafhkaa.G Go.Proofs.Ytnaohcimmafhkaa.Math Go.Proofs.YtnaohcimmafhkaaW.PrintWords

theorem NumBack : garlandlaw01_NumBack.Pure := by
  intro n m l _ _ _ _ hl
  have hl := u8s hl
  refine ⟨20, ?_⟩
  unfold garlandlaw01_NumBack.f
  have hwk : ∀ k, garlandlaw01_wakes.f (k + 10) = some true := wakes_ge
  split
  · rw [wakes_of 20 (by decide)]; rfl
  · rename_i hlen
    rcases put_cases n with ⟨N, rfl, hN, hp⟩ | ⟨hbad, hp⟩
    · rw [hp]
      have key : ∀ q : List Int × Int, ((∃ M : Nat, m = (M : Int) ∧ M ≤ 1099511627776 ∧ q = (enc M, 0)) ∨ ((m < 0 ∨ 1099511627776 < m) ∧ q = ([], 2))) →
          garlandlaw01_NumBack.j0 20 (N : Int) m l (enc N) 0 q.1 q.2 false = some true := by
        intro q hq
        have hen := enc_len N
        have heb := enc_bytes N hN
        have h6 : (low N).length ≤ 6 := low_len 6 N (by omega)
        simp only [garlandlaw01_NumBack.j0, Bool.false_eq_true, if_false, Option.bind_some, List.nil_append, List.length_nil]
        rw [if_pos (by omega), if_pos (by omega), take_ok N hN l hl (by omega)]
        simp only [Option.bind_some, if_true]
        rw [same_eq l l hl hl]
        simp only [Option.bind_some, decide_true, if_true]
        rw [if_neg (by omega)]
        have hj1 : garlandlaw01_NumBack.j1 19 (enc N) false = some true := by
          simp only [garlandlaw01_NumBack.j1, Bool.false_eq_true, if_false]
          have hw : wrap64 (((enc N).length : Int) - 1) = (((enc N).length - 1 : Nat) : Int) := by rw [wrap64_small _ (by omega) (by omega)]; omega
          rw [hw, if_pos (by omega), if_pos (by omega), Int.toNat_natCast, take_short N hN]
          simp only [Option.bind_some, if_true]
          rw [wakes_of 18 (by decide)]
          rfl
        rcases hq with ⟨M, rfl, hM, rfl⟩ | ⟨hb, rfl⟩
        · simp only [if_true]
          rw [same_eq _ _ heb (enc_bytes M hM)]
          simp only [Option.bind_some]
          have e : (decide (enc N = enc M) != ((N : Int) == (M : Int))) = false := by
            by_cases h : N = M
            · subst h; simp
            · have h1 : ¬ enc N = enc M := fun e => h (enc_inj hN hM e)
              have h2 : ((N : Int) == (M : Int)) = false := by simp; omega
              simp [h1, h2]
          rw [e]
          exact hj1
        · rw [if_neg (by decide)]
          exact hj1
      have hd : decide ((N : Int) > 1099511627776) = false := decide_eq_false (by omega)
      rcases put_cases m with ⟨M, e, hM, hq⟩ | ⟨hb, hq⟩
      · rw [hq]
        simp only [Option.bind_some]
        rw [if_neg (by omega), hd]
        exact key (enc M, 0) (.inl ⟨M, e, hM, rfl⟩)
      · rw [hq]
        simp only [Option.bind_some]
        rw [if_neg (by omega), hd]
        exact key ([], 2) (.inr ⟨hb, rfl⟩)
    · rw [hp]
      have key : ∀ q : List Int × Int, garlandlaw01_NumBack.j0 20 n m l [] 2 q.1 q.2 true = some true := by
        intro q
        simp only [garlandlaw01_NumBack.j0, if_true, List.length_nil]
        rw [wakes_of 19 (by decide)]
        rfl
      have hput : ∃ q, num_Put.f m = some q := by
        rcases put_cases m with ⟨M, e, hM, hq⟩ | ⟨hb, hq⟩
        · exact ⟨_, hq⟩
        · exact ⟨_, hq⟩
      obtain ⟨q, hq⟩ := hput
      rw [hq]
      simp only [Option.bind_some]
      split
      · exact key q
      · rw [decide_eq_true (by omega)]
        exact key q
end Go.Proofs.Ytnaohcimmafhkaa.Pure
