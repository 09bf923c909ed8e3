import Derived.Test.YtpbhncmaamedhaaDoorLmat
import Derived.Deep.RegionHeld3
namespace Go.Proofs.YtpbhncmaamedhaaDoor
open Go.RowKit Go.Proofs.Lexi

/-! The examples of the chapter, computed. -/
def sKey : ByteArray := ⟨#[107, 101, 121, 61, 118, 97, 108]⟩
def pKey : ByteArray := ⟨#[40, 37, 119, 43, 41, 61, 40, 37, 119, 42, 41]⟩
theorem ex_at : atM (bytesOf sKey) (bytesOf pKey) 0 = .ok (some ⟨0, 7, [(0, 3), (4, 7)]⟩) := by kernel_rfl
def sBal : ByteArray := ⟨#[102, 40, 97, 40, 98, 41, 99, 41, 100]⟩
def pBal : ByteArray := ⟨#[37, 98, 40, 41]⟩
theorem ex_find : findM (bytesOf sBal) (bytesOf pBal) 0 = .ok (some ⟨1, 8, []⟩) := by kernel_rfl
def sHel : ByteArray := ⟨#[104, 101, 108, 108, 111]⟩
def pHel : ByteArray := ⟨#[108]⟩
def rHel : ByteArray := ⟨#[91, 37, 48, 93]⟩
theorem ex_repl : replM (bytesOf sHel) (bytesOf pHel) (bytesOf rHel) 1 = .ok ([104, 101, 91, 108, 93, 108, 111], 1) := by kernel_rfl
def sAab : ByteArray := ⟨#[97, 97, 98]⟩
def pAab : ByteArray := ⟨#[97, 42]⟩
theorem ex_all : allM (bytesOf sAab) (bytesOf pAab) = .ok [⟨0, 2, []⟩, ⟨3, 3, []⟩] := by kernel_rfl
theorem ex_check1 : CheckE (bytesOf ⟨#[40, 97]⟩) = 4 := by kernel_rfl
theorem ex_check2 : CheckE (bytesOf ⟨#[97, 42, 42]⟩) = 0 := by kernel_rfl
theorem ex_esc : escapeM (bytesOf ⟨#[97, 46, 98]⟩) = [97, 37, 46, 98] := by kernel_rfl
end Go.Proofs.YtpbhncmaamedhaaDoor
