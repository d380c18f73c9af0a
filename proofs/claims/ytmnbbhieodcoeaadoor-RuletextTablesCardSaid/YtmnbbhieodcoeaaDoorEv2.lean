/-
  What the examples' texts and comparisons come to.
-/
import Derived.Test.YtmnbbhieodcoeaaDoorXo
import Derived.Test.YtmnbbhieodcoeaaDoorPTxtx
namespace Go.Proofs.YtmnbbhieodcoeaaDoor.Rt
open Go.RowKit Go.Proofs.YtmnbbhieodcoeaaDoorW.PrintWords Go.Proofs.YtmnbbhieodcoeaaDoorW.PrintLast Go.Proofs.YtmnbbhieodcoeaaDoorW.PrintMore
open Go.Proofs.YtmnbbhieodcoeaaDoor.PBase Go.Proofs.YtmnbbhieodcoeaaDoor.PScn Go.Proofs.YtmnbbhieodcoeaaDoor.PTxt
def exX (x y z : S24) : S24 := ⟨11, 0, ⟨#[]⟩, [(⟨9, 0, ⟨#[]⟩, [(⟨6, 0, ⟨#[]⟩, [x, y]⟩ : S24)]⟩ : S24), (⟨7, 0, ⟨#[]⟩, [z, num 3]⟩ : S24)]⟩
def exY (x y z : S24) : S24 := ⟨5, 0, ⟨#[]⟩, [(⟨3, 0, ⟨#[]⟩, [x, num 1]⟩ : S24), (⟨4, 0, ⟨#[]⟩, [y, (⟨4, 0, ⟨#[]⟩, [z, num (-2)]⟩ : S24)]⟩ : S24)]⟩
def exZ : S24 := ⟨11, 0, ⟨#[]⟩, [⟨9, 0, ⟨#[]⟩, [⟨6, 0, ⟨#[]⟩, [⟨2, 0, ⟨#[97]⟩, []⟩, ⟨2, 0, ⟨#[98]⟩, []⟩]⟩]⟩, ⟨7, 0, ⟨#[]⟩, [⟨2, 0, ⟨#[99]⟩, []⟩, ⟨1, 3, ⟨#[]⟩, []⟩]⟩]⟩
def exL : List S58 := [⟨1, ⟨10, 0, ⟨#[]⟩, [⟨8, 0, ⟨#[]⟩, [⟨2, 0, ⟨#[107, 110, 111, 116, 115]⟩, []⟩, ⟨1, 2, ⟨#[]⟩, []⟩]⟩, ⟨6, 0, ⟨#[]⟩, [⟨2, 0, ⟨#[119, 97, 110, 101]⟩, []⟩, ⟨1, 0, ⟨#[]⟩, []⟩]⟩]⟩⟩, ⟨2, ⟨9, 0, ⟨#[]⟩, [⟨7, 0, ⟨#[]⟩, [⟨1, 0, ⟨#[]⟩, []⟩, ⟨2, 0, ⟨#[114, 111, 116]⟩, []⟩]⟩]⟩⟩]
def va : S24 := nam (⟨#[97]⟩ : ByteArray)
def vb : S24 := nam (⟨#[98]⟩ : ByteArray)
def vc : S24 := nam (⟨#[99]⟩ : ByteArray)
theorem ev_x : ruletext_Expr.f 300 (exX va vb vc).f0 (exX va vb vc).f1 (exX va vb vc).f2 (exX va vb vc).f3 = some (⟨#[110, 111, 116, 32, 97, 32, 61, 32, 98, 32, 111, 114, 32, 99, 32, 60, 32, 51]⟩ : ByteArray) := by kernel_rfl
theorem ev_y : ruletext_Expr.f 300 (exY va vb vc).f0 (exY va vb vc).f1 (exY va vb vc).f2 (exY va vb vc).f3 = some (⟨#[40, 97, 32, 43, 32, 49, 41, 32, 42, 32, 40, 98, 32, 45, 32, 40, 99, 32, 45, 32, 45, 50, 41, 41]⟩ : ByteArray) := by kernel_rfl
theorem ev_zx : ruletext_Same.f 300 exZ.f0 exZ.f1 exZ.f2 exZ.f3 (exX va vb vc).f0 (exX va vb vc).f1 (exX va vb vc).f2 (exX va vb vc).f3 = some true := by kernel_rfl
theorem ev_xy : ruletext_Same.f 300 (exX va vb vc).f0 (exX va vb vc).f1 (exX va vb vc).f2 (exX va vb vc).f3 (exY va vb vc).f0 (exY va vb vc).f1 (exY va vb vc).f2 (exY va vb vc).f3 = some false := by kernel_rfl
theorem ev_l : ruletext_Format.f 300 exL = some (⟨#[103, 114, 97, 100, 101, 32, 49, 32, 119, 104, 101, 110, 32, 107, 110, 111, 116, 115, 32, 60, 61, 32, 50, 32, 97, 110, 100, 32, 119, 97, 110, 101, 32, 61, 32, 48, 59, 10, 103, 114, 97, 100, 101, 32, 50, 32, 119, 104, 101, 110, 32, 110, 111, 116, 32, 48, 32, 60, 32, 114, 111, 116, 59, 10]⟩ : ByteArray) := by kernel_rfl
theorem ev_and : ruletext_Expr.f 300 (nam (⟨#[97, 110, 100]⟩ : ByteArray)).f0 (nam (⟨#[97, 110, 100]⟩ : ByteArray)).f1 (nam (⟨#[97, 110, 100]⟩ : ByteArray)).f2 (nam (⟨#[97, 110, 100]⟩ : ByteArray)).f3 = some (⟨#[]⟩ : ByteArray) := by kernel_rfl
end Go.Proofs.YtmnbbhieodcoeaaDoor.Rt
