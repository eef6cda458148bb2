/- What the document says of 0, of 300, of a list, is so. -/
import Derived.Test.YtnaohcimmafhkaaG9
import Derived.Test.YtnaohcimmafhkaaMath1
namespace Go.Proofs.Ytnaohcimmafhkaa.Math
open Go.RowKit Go.Proofs.Ytnaohcimmafhkaa.G Go.Proofs.YtnaohcimmafhkaaW.PrintWords

theorem enc0 : enc 0 = [0] := by simp [enc, low_zero]
theorem enc1 : enc 1 = [1, 1] := by rw [enc, low_pos (by decide)]; simp [low_zero]
theorem enc300 : enc 300 = [2, 1, 44] := by rw [enc, low_pos (by decide), show 300 / 256 = 1 from rfl, low_pos (by decide)]; simp [low_zero]
theorem put0 : num_Put.f 0 = some ([0], 0) := by have := put_ok 0 (by decide); rw [enc0] at this; exact this
theorem put1 : num_Put.f 1 = some ([1, 1], 0) := by have := put_ok 1 (by decide); rw [enc1] at this; exact this
theorem put300 : num_Put.f 300 = some ([2, 1, 44], 0) := by have := put_ok 300 (by decide); rw [enc300] at this; exact this
theorem take300 : num_Take.f [2, 1, 44, 9] = some (300, [9], 0) := by
  have := take_ok 300 (by decide) [9] (Bytes.cons (by omega) Bytes.nil) (by simp)
  rw [enc300] at this; exact this
theorem take10 : num_Take.f [1, 0] = some (0, [], 12) := by simp [num_Take.f]
theorem take1 : num_Take.f [1] = some (0, [], 11) := by simp [num_Take.f]
theorem taket : num_TakeText.f [2, 97, 98, 7] = some (strOfNums [97, 98], [7], 0) := by simp [num_TakeText.f, bytes_Clone.f, wrap64, rd]
theorem text2 : num_Text.f (⟨#[97, 98]⟩ : ByteArray) = some ([2, 97, 98], 0) := by rfl
theorem take11 : num_Take.f [1, 1, 0, 5] = some (1, [0, 5], 0) := by
  have := take_ok 1 (by decide) [0, 5] (Bytes.cons (by omega) (Bytes.cons (by omega) Bytes.nil)) (by simp)
  rw [enc1] at this; exact this
theorem take05 : num_Take.f [0, 5] = some (0, [5], 0) := by
  have := take_ok 0 (by decide) [5] (Bytes.cons (by omega) Bytes.nil) (by simp)
  rw [enc0] at this; exact this
theorem list10 : num_List.f 10 [1, 0] = some ([2, 1, 1, 0], 0) := by
  simp [num_List.f, num_List.l0, rd, put0, put1, wrap64]
theorem takel : num_TakeList.f 10 [2, 1, 1, 0, 5] = some ([1, 0], [5], 0) := by
  simp [num_TakeList.f, num_TakeList.l0, rd, bytes_Clone.f, take11, take05]
theorem ints10 : garlandref01_Ints.f 10 [1, 0] [1, 0] = some true := by
  simp [garlandref01_Ints.f, garlandref01_Ints.l0, rd, wrap64]
theorem same_refl (l : List Int) : garlandlaw01_same.f l l = some true := by simp [garlandlaw01_same.f]
theorem wakes10 : garlandlaw01_wakes.f 10 = some true := by
  unfold garlandlaw01_wakes.f
  rw [put0, put300, list10, take300, take10, take1, taket, text2, takel]
  simp only [Option.bind_some, same_refl, if_true, ints10]
  simp [strOfNums, ByteArray.toList, ByteArray.toList.loop, ByteArray.size, ByteArray.get!]
theorem wakes_ge (k : Nat) : garlandlaw01_wakes.f (k + 10) = some true := by
  induction k with
  | zero => exact wakes10
  | succ k ih => rw [show k + 1 + 10 = (k + 10) + 1 by omega]; exact garlandlaw01_wakes.mono _ _ ih
end Go.Proofs.Ytnaohcimmafhkaa.Math
