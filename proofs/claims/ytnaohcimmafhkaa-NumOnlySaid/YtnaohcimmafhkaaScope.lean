/- A scope that is left by at most one jump ahead, to one label. -/
import Derived.ScopeJumps
import Derived.WalkMore
namespace Go.Proofs.Ytnaohcimmafhkaa.Scope
theorem wp_scope_once {P : Program} {a : Act} {w : World} {Q : Exit → Act → World → Prop} {c rest : Code} (l : Nat) (hf : findLabel c l = some rest)
    (first : c.wp P (Exit.jump l (fun a w => rest.wp P (Exit.noGoto Q) a w) Q) a w) : (Code.scope c).wp P Q a w :=
  wp_scope_jumps l _ (fun _ _ => 0) hf first (fun _ _ hJ => wp_mono hJ (fun e _ _ h => by cases e <;> first | exact h.elim | exact h))
theorem jump_ret {l : Nat} {J : Act → World → Prop} {Q : Exit → Act → World → Prop} {a : Act} {w : World} : Exit.jump l J Q .ret a w = Q .ret a w := rfl
theorem jump_ret_of {l : Nat} {J : Act → World → Prop} {Q : Exit → Act → World → Prop} {a : Act} {w : World} (h : Q .ret a w) : Exit.jump l J Q .ret a w := h
end Go.Proofs.Ytnaohcimmafhkaa.Scope
