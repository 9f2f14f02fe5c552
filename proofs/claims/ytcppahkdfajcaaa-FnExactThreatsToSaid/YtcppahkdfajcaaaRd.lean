/- What came in reads as the print's kinds: this seat's types. No condition. -/
import Derived.Test.YtcppahkdfajcaaaOpen
import Derived.Test.YtcppahkdfajcaaaP
namespace Go.Proofs.Ytcppahkdfajcaaa.Rd
open Go.RowKit Go.Proofs.Ytcppahkdfajcaaa.Open Go.Proofs.Ytcppahkdfajcaaa.P Go.Proofs.YtcppahkdfajcaaaW.PrintWords
theorem rd_3 : RdK Try.prog 3 (Kd.int .i64) := RdK.int Try.underlying3
theorem rd_22 : RdK Try.prog 22 (Kd.slice 3 (Kd.int .i64)) := RdK.slice Try.underlying22 rd_3 (by kernel_rfl)
theorem rd_24 : RdK Try.prog 24 k24 := RdK.struct (fun a => ⟨a.1, a.2.1, a.2.2.1, a.2.2.2.1, a.2.2.2.2⟩) (fun _ => rfl) Try.underlying24 (by kernel_rfl) (RdFs.cons rd_3 rfl (by kernel_rfl) (RdFs.cons rd_3 rfl (by kernel_rfl) (RdFs.cons rd_3 rfl (by kernel_rfl) (RdFs.cons rd_22 rfl (by kernel_rfl) (RdFs.one rd_22 rfl (by kernel_rfl))))))
theorem rd_34 : RdK Try.prog 34 (Kd.slice 22 (Kd.slice 3 (Kd.int .i64))) := RdK.slice Try.underlying34 rd_22 (by kernel_rfl)
end Go.Proofs.Ytcppahkdfajcaaa.Rd
