/-
  What the examples come to.
-/
import Derived.Test.YtmnbbhieodcoeaaDoorPA
namespace Go.Proofs.YtmnbbhieodcoeaaDoor.Rt
open Go.RowKit Go.Proofs.YtmnbbhieodcoeaaDoorW.PrintWords Go.Proofs.YtmnbbhieodcoeaaDoorW.PrintLast Go.Proofs.YtmnbbhieodcoeaaDoorW.PrintMore
open Go.Proofs.YtmnbbhieodcoeaaDoor.PBase Go.Proofs.YtmnbbhieodcoeaaDoor.PScn
theorem ev_pe1 : PEs 200 (⟨#[97, 32, 60, 32, 98, 32, 60, 32, 99]⟩ : ByteArray) = some (⟨0, 0, ⟨#[]⟩, []⟩, 5, 6) := by kernel_rfl
theorem ev_pe2 : PEs 200 (⟨#[97, 32, 97, 110, 100, 32, 78, 111, 116]⟩ : ByteArray) = some (⟨0, 0, ⟨#[]⟩, []⟩, 6, 6) := by kernel_rfl
theorem ev_pe3 : PEs 200 (⟨#[97, 32, 33, 61, 32, 98, 32, 111, 114, 32, 99, 32, 60, 32, 51]⟩ : ByteArray) = some (⟨11, 0, ⟨#[]⟩, [⟨9, 0, ⟨#[]⟩, [⟨6, 0, ⟨#[]⟩, [⟨2, 0, ⟨#[97]⟩, []⟩, ⟨2, 0, ⟨#[98]⟩, []⟩]⟩]⟩, ⟨7, 0, ⟨#[]⟩, [⟨2, 0, ⟨#[99]⟩, []⟩, ⟨1, 3, ⟨#[]⟩, []⟩]⟩]⟩, 0, 0) := by kernel_rfl
theorem ev_pa : PAs 200 (⟨#[103, 114, 97, 100, 101, 32, 49, 32, 119, 104, 101, 110, 32, 107, 110, 111, 116, 115, 32, 60, 61, 32, 50, 32, 97, 110, 100, 32, 119, 97, 110, 101, 32, 61, 32, 48, 59, 32, 103, 114, 97, 100, 101, 32, 50, 32, 119, 104, 101, 110, 32, 110, 111, 116, 32, 114, 111, 116, 32, 62, 32, 48, 59]⟩ : ByteArray) = some ([⟨1, ⟨10, 0, ⟨#[]⟩, [⟨8, 0, ⟨#[]⟩, [⟨2, 0, ⟨#[107, 110, 111, 116, 115]⟩, []⟩, ⟨1, 2, ⟨#[]⟩, []⟩]⟩, ⟨6, 0, ⟨#[]⟩, [⟨2, 0, ⟨#[119, 97, 110, 101]⟩, []⟩, ⟨1, 0, ⟨#[]⟩, []⟩]⟩]⟩⟩, ⟨2, ⟨9, 0, ⟨#[]⟩, [⟨7, 0, ⟨#[]⟩, [⟨1, 0, ⟨#[]⟩, []⟩, ⟨2, 0, ⟨#[114, 111, 116]⟩, []⟩]⟩]⟩⟩], 0, 0) := by kernel_rfl
end Go.Proofs.YtmnbbhieodcoeaaDoor.Rt
