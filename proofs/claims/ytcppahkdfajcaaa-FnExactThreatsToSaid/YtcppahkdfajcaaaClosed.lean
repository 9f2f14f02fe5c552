/- Closed facts on this seat's program, each by the kernel, once for all its rows. -/
import Derived.Test.YtcppahkdfajcaaaRows
import Derived.WalkKit
import Derived.ProofKit
namespace Go.Proofs.Ytcppahkdfajcaaa.Closed
theorem both {a b : Bool} (h : a = true) (k : b = true) : (a && b) = true := by rw [h, k]; rfl
theorem g1 : laidOutB Try.prog = true := by kernel_rfl
theorem g2 : mapsRowed Try.prog = true := by kernel_rfl
theorem g6 : (Try.prog.stops == []) = true := by kernel_rfl
theorem g8 : (Try.prog.stopKnobs == []) = true := by kernel_rfl
theorem g22 : (Rows.fnExactIsTrackRow.plainKeys == Try.prog.plainKeys) = true := by kernel_rfl
theorem g24 : Try.prog.stopsHeard = true := by kernel_rfl
theorem g25 : Try.prog.mayEnter = true := by kernel_rfl
theorem g26 : (Rows.fnExactIsTrackRow.lifted == Try.prog.liftsFinal) = true := by kernel_rfl
theorem g27 : (Try.prog.make == some Rows.fnExactIsTrackRow.make) = true := by kernel_rfl
end Go.Proofs.Ytcppahkdfajcaaa.Closed
