/- All hidden boards of so many squares and faces: what the program's list and the reference's list are. -/
import Derived.Test.YtifgjihjcloloaaP69
import Derived.Test.YtifgjihjcloloaaP69
import Derived.Test.YtifgjihjcloloaaQBase
namespace Go.Proofs.Ytifgjihjcloloaa.Q
open Go.RowKit Go.Proofs.Ytifgjihjcloloaa.P Go.Proofs.YtifgjihjcloloaaW.PrintWords Go.Proofs.YtifgjihjcloloaaW.PrintLast
set_option linter.unusedVariables false

def bds (s f : Int) : List S37 :=
  (List.range 3).flatMap fun (o : Nat) => (⟨s, f, (o : Int), []⟩ : S37) :: (List.range' 1 (s.toNat - 1)).flatMap fun (fr : Nat) =>
    (List.range (s.toNat + 1)).filterMap fun (t : Nat) => if t = fr then none else some (⟨s, f, (o : Int), [⟨(fr : Int), (t : Int)⟩]⟩ : S37)

set_option maxRecDepth 100000 in
theorem hidden_1 (f : Int) : impl_hidden.f 400 1 f = some (bds 1 f) := by kernel_rfl
set_option maxRecDepth 100000 in
theorem hidden_2 (f : Int) : impl_hidden.f 400 2 f = some (bds 2 f) := by kernel_rfl
set_option maxRecDepth 100000 in
theorem hidden_3 (f : Int) : impl_hidden.f 400 3 f = some (bds 3 f) := by kernel_rfl
set_option maxRecDepth 100000 in
theorem hidden_4 (f : Int) : impl_hidden.f 400 4 f = some (bds 4 f) := by kernel_rfl
set_option maxRecDepth 100000 in
theorem hidden_5 (f : Int) : impl_hidden.f 400 5 f = some (bds 5 f) := by kernel_rfl
set_option maxRecDepth 100000 in
theorem hidden_6 (f : Int) : impl_hidden.f 400 6 f = some (bds 6 f) := by kernel_rfl
set_option maxRecDepth 100000 in
theorem hidden_7 (f : Int) : impl_hidden.f 400 7 f = some (bds 7 f) := by kernel_rfl
set_option maxRecDepth 100000 in
theorem hidden_8 (f : Int) : impl_hidden.f 400 8 f = some (bds 8 f) := by kernel_rfl
set_option maxRecDepth 100000 in
theorem hidden_9 (f : Int) : impl_hidden.f 400 9 f = some (bds 9 f) := by kernel_rfl
set_option maxRecDepth 100000 in
theorem hidden_10 (f : Int) : impl_hidden.f 400 10 f = some (bds 10 f) := by kernel_rfl
theorem hidden_eq (s f : Int) (h1 : 1 ≤ s) (h2 : s ≤ 10) : impl_hidden.f 400 s f = some (bds s f) := by
  have : s = 1 ∨ s = 2 ∨ s = 3 ∨ s = 4 ∨ s = 5 ∨ s = 6 ∨ s = 7 ∨ s = 8 ∨ s = 9 ∨ s = 10 := by omega
  rcases this with rfl | rfl | rfl | rfl | rfl | rfl | rfl | rfl | rfl | rfl
  · exact hidden_1 f
  · exact hidden_2 f
  · exact hidden_3 f
  · exact hidden_4 f
  · exact hidden_5 f
  · exact hidden_6 f
  · exact hidden_7 f
  · exact hidden_8 f
  · exact hidden_9 f
  · exact hidden_10 f
set_option maxRecDepth 100000 in
theorem boards_1 (f : Int) : spec_pzBoards.f 400 1 f = some (bds 1 f) := by kernel_rfl
set_option maxRecDepth 100000 in
theorem boards_2 (f : Int) : spec_pzBoards.f 400 2 f = some (bds 2 f) := by kernel_rfl
set_option maxRecDepth 100000 in
theorem boards_3 (f : Int) : spec_pzBoards.f 400 3 f = some (bds 3 f) := by kernel_rfl
set_option maxRecDepth 100000 in
theorem boards_4 (f : Int) : spec_pzBoards.f 400 4 f = some (bds 4 f) := by kernel_rfl
set_option maxRecDepth 100000 in
theorem boards_5 (f : Int) : spec_pzBoards.f 400 5 f = some (bds 5 f) := by kernel_rfl
set_option maxRecDepth 100000 in
theorem boards_6 (f : Int) : spec_pzBoards.f 400 6 f = some (bds 6 f) := by kernel_rfl
set_option maxRecDepth 100000 in
theorem boards_7 (f : Int) : spec_pzBoards.f 400 7 f = some (bds 7 f) := by kernel_rfl
set_option maxRecDepth 100000 in
theorem boards_8 (f : Int) : spec_pzBoards.f 400 8 f = some (bds 8 f) := by kernel_rfl
set_option maxRecDepth 100000 in
theorem boards_9 (f : Int) : spec_pzBoards.f 400 9 f = some (bds 9 f) := by kernel_rfl
set_option maxRecDepth 100000 in
theorem boards_10 (f : Int) : spec_pzBoards.f 400 10 f = some (bds 10 f) := by kernel_rfl
theorem boards_eq (s f : Int) (h1 : 1 ≤ s) (h2 : s ≤ 10) : spec_pzBoards.f 400 s f = some (bds s f) := by
  have : s = 1 ∨ s = 2 ∨ s = 3 ∨ s = 4 ∨ s = 5 ∨ s = 6 ∨ s = 7 ∨ s = 8 ∨ s = 9 ∨ s = 10 := by omega
  rcases this with rfl | rfl | rfl | rfl | rfl | rfl | rfl | rfl | rfl | rfl
  · exact boards_1 f
  · exact boards_2 f
  · exact boards_3 f
  · exact boards_4 f
  · exact boards_5 f
  · exact boards_6 f
  · exact boards_7 f
  · exact boards_8 f
  · exact boards_9 f
  · exact boards_10 f

end Go.Proofs.Ytifgjihjcloloaa.Q
