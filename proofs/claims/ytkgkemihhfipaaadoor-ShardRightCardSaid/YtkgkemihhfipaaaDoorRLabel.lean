/- Packed by pack.py (this session's own program): texts of the kit's printer and of my own, what is not used struck. -/
import Derived.WalkKit
import Derived.WalkSpells
import Derived.WalkMore
import Derived.ScopeJumps
set_option linter.unusedVariables false
set_option linter.unusedSimpArgs false
namespace Go.Proofs.YtkgkemihhfipaaaDoor
open Go.RowKit
theorem wp_scope_label {P : Program} {a : Act} {w : World} {Q : Exit → Act → World → Prop} {c rest : Code} (l : Nat) (J : Act → World → Prop) (m : Act → World → Nat) (hf : findLabel c l = some (.seq .skip rest))
    (pass : ∀ (J' : Act → World → Prop) a w, J a w → (∀ a' w', J a' w' → m a' w' < m a w → J' a' w') → rest.wp P (Exit.jump l J' Q) a w)
    (first : (∀ a w, J a w → rest.wp P (Exit.jump l J Q) a w) → c.wp P (Exit.jump l J Q) a w) : (Code.scope c).wp P Q a w :=
  wp_scope_jumps l J m hf (first fun a w h => pass J a w h fun _ _ h _ => h) fun a w h => wp_seq (wp_skip (pass _ a w h fun _ _ h1 h2 => ⟨h1, h2⟩))
def slotInt (a : Act) (k : Nat) : Int := match a.tmps.getD k undef with | .int _ n => n | _ => 0
end Go.Proofs.YtkgkemihhfipaaaDoor
