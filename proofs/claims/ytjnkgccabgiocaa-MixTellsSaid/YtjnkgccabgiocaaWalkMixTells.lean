/- A call of MixTells answers true, at all that can come in; nothing that lay is turned. -/
import Derived.Test.YtjnkgccabgiocaaPureMixTells
import Derived.Test.YtjnkgccabgiocaaG5
namespace Go.Proofs.Ytjnkgccabgiocaa.Pure
open Go.RowKit Go.Proofs.Ytjnkgccabgiocaa.G Go.Proofs.YtjnkgccabgiocaaW.PrintWords
theorem MixTells_walk (a0 a1 : Int) (a2 : ByteArray) (A3 : Option Addr) (c3 : Nat) (l3 : List ByteArray) (W : World) (w1 : (Lit.int .u8 a1).wf = true) (hr3 : Kd.C Kd.string W A3 l3.length l3) (hc3 : l3.length ≤ c3) :
    Calls Try.prog 3 #[.int .i64 a0, .int .u8 a1, .string a2, .slice A3 l3.length c3] W fun e w' => e = .returned (.bool true) ∧ Below W.heap.size W w' := by
  obtain ⟨k, h⟩ := MixTells a0 a1 w1 a2 l3
  exact garlandlaw04_MixTells.calls k a0 a1 a2 A3 c3 l3 true W hr3 hc3 h
end Go.Proofs.Ytjnkgccabgiocaa.Pure
