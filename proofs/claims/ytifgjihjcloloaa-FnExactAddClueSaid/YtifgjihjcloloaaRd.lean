/- What came in reads as the print's kinds: this seat's types. No condition. -/
import Derived.Test.YtifgjihjcloloaaOpen
import Derived.Test.YtifgjihjcloloaaP
namespace Go.Proofs.Ytifgjihjcloloaa.Rd
open Go.RowKit Go.Proofs.Ytifgjihjcloloaa.Open Go.Proofs.Ytifgjihjcloloaa.P Go.Proofs.YtifgjihjcloloaaW.PrintWords
theorem rd_3 : RdK Try.prog 3 (Kd.int .i64) := RdK.int Try.underlying3
theorem rd_26 : RdK Try.prog 26 k26 := RdK.struct (fun a => ⟨a.1, a.2.1, a.2.2.1, a.2.2.2⟩) (fun _ => rfl) Try.underlying26 (by kernel_rfl) (RdFs.cons rd_3 rfl (by kernel_rfl) (RdFs.cons rd_3 rfl (by kernel_rfl) (RdFs.cons rd_3 rfl (by kernel_rfl) (RdFs.one rd_3 rfl (by kernel_rfl)))))
theorem rd_31 : RdK Try.prog 31 (Kd.slice 26 k26) := RdK.slice Try.underlying31 rd_26 (by kernel_rfl)
theorem rd_33 : RdK Try.prog 33 k33 := RdK.struct (fun a => ⟨a.1, a.2.1, a.2.2⟩) (fun _ => rfl) Try.underlying33 (by kernel_rfl) (RdFs.cons rd_3 rfl (by kernel_rfl) (RdFs.cons rd_3 rfl (by kernel_rfl) (RdFs.one rd_31 rfl (by kernel_rfl))))
theorem rd_114 : RdK Try.prog 114 k114 := RdK.struct (fun a => ⟨a.1, a.2⟩) (fun _ => rfl) Try.underlying114 (by kernel_rfl) (RdFs.cons rd_3 rfl (by kernel_rfl) (RdFs.one rd_3 rfl (by kernel_rfl)))
theorem rd_60 : RdK Try.prog 60 (Kd.slice 114 k114) := RdK.slice Try.underlying60 rd_114 (by kernel_rfl)
theorem rd_62 : RdK Try.prog 62 k62 := RdK.struct (fun a => ⟨a.1, a.2.1, a.2.2.1, a.2.2.2⟩) (fun _ => rfl) Try.underlying62 (by kernel_rfl) (RdFs.cons rd_3 rfl (by kernel_rfl) (RdFs.cons rd_3 rfl (by kernel_rfl) (RdFs.cons rd_3 rfl (by kernel_rfl) (RdFs.one rd_60 rfl (by kernel_rfl)))))
end Go.Proofs.Ytifgjihjcloloaa.Rd
