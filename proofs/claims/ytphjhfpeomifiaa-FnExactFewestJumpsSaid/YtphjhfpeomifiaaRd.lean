/- What came in reads as the print's kinds: this seat's types. No condition. -/
import Derived.Test.YtphjhfpeomifiaaOpen
import Derived.Test.YtphjhfpeomifiaaP
namespace Go.Proofs.Ytphjhfpeomifiaa.Rd
open Go.RowKit Go.Proofs.Ytphjhfpeomifiaa.Open Go.Proofs.Ytphjhfpeomifiaa.P Go.Proofs.YtphjhfpeomifiaaW.PrintWords
theorem rd_3 : RdK Try.prog 3 (Kd.int .i64) := RdK.int Try.underlying3
theorem rd_72 : RdK Try.prog 72 k72 := RdK.struct (fun a => ⟨a.1, a.2⟩) (fun _ => rfl) Try.underlying72 (by kernel_rfl) (RdFs.cons rd_3 rfl (by kernel_rfl) (RdFs.one rd_3 rfl (by kernel_rfl)))
theorem rd_22 : RdK Try.prog 22 (Kd.slice 72 k72) := RdK.slice Try.underlying22 rd_72 (by kernel_rfl)
theorem rd_24 : RdK Try.prog 24 k24 := RdK.struct (fun a => ⟨a.1, a.2.1, a.2.2.1, a.2.2.2⟩) (fun _ => rfl) Try.underlying24 (by kernel_rfl) (RdFs.cons rd_3 rfl (by kernel_rfl) (RdFs.cons rd_3 rfl (by kernel_rfl) (RdFs.cons rd_3 rfl (by kernel_rfl) (RdFs.one rd_22 rfl (by kernel_rfl)))))
theorem rd_36 : RdK Try.prog 36 (Kd.slice 3 (Kd.int .i64)) := RdK.slice Try.underlying36 rd_3 (by kernel_rfl)
end Go.Proofs.Ytphjhfpeomifiaa.Rd
