/- Sizes of hidden boards in the reference and the program. Plain Lean; no Go in it. -/
import Derived.Test.YtifgjihjcloloaaQBase
import Derived.Test.YtifgjihjcloloaaP91
import Derived.Test.YtifgjihjcloloaaP91
namespace Go.Proofs.Ytifgjihjcloloaa.Q
open Go.RowKit Go.Proofs.Ytifgjihjcloloaa.P Go.Proofs.YtifgjihjcloloaaW.PrintWords
set_option linter.unusedVariables false

theorem l1In_v (x lo hi : Int) : spec_l1In.f x lo hi = some (inR x lo hi) := inR_eq x lo hi
theorem within_v (x lo hi : Int) : impl_within.f x lo hi = some (inR x lo hi) := inR_eq x lo hi
def sizeB (s f : Int) : Bool := inR s 1 10 && inR f 1 8
theorem size_eq (s f : Int) : spec_pzSize.f s f = some (sizeB s f) := by
  unfold spec_pzSize.f sizeB
  simp only [l1In_v, Option.bind_some]
  cases inR s 1 10 <;> rfl
theorem isHid_eq (s f : Int) : impl_areHidden.f s f = some (sizeB s f) := by
  unfold impl_areHidden.f sizeB
  simp only [within_v, Option.bind_some]
  cases inR s 1 10 <;> rfl

end Go.Proofs.Ytifgjihjcloloaa.Q
