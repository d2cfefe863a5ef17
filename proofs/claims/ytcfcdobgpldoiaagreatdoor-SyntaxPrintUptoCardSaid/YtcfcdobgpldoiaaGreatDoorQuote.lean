/- pats.Quote, strconv.Itoa, and the package variables that they read. -/
import Derived.Test.YtcfcdobgpldoiaaGreatDoorShowP
import Derived.Test.YtcfcdobgpldoiaaGreatDoorBld
import Derived.WalkSmall
import Derived.Lib.LaidTab
namespace Go.Proofs.YtcfcdobgpldoiaaGreatDoor
set_option linter.all false
open Go.RowKit

/-- What the library's package variables hold. -/
def Glob (w : World) : Prop := (∃ m, w.cell? ⟨0, 0, none⟩ = some (.int .i64 m)) ∧ Lib.TabIs Tryz.prog w "internal/strconv.uint64pow10" .u64 Lib.pow10Tab
theorem Glob.below {w w' : World} {B : Nat} (h : Glob w) (hb : Below B w w') (hB : 0 < B ∧ 1 < B) : Glob w' := by
  obtain ⟨⟨m, hm⟩, ht⟩ := h
  exact ⟨⟨m, (World.cell?_of_block (hb.block _ hB.1)).trans hm⟩, var?_below hb (by kernel_rfl : Tryz.prog.globalNamed "internal/strconv.uint64pow10" = some 1) hB.2 ht⟩
theorem Kept.of_below {w w' : World} (h : Below w.heap.size w w') : Kept Nix w w' := ⟨h.os, h.tape, h.output, h.size, fun k hk _ => h.block k hk⟩
def StrQ (l : List UInt8) (w : World) (e : Ending) (w' : World) : Prop := e = .returned (.string ⟨l.toArray⟩) ∧ Kept Nix w w'
theorem replace_any (s : ByteArray) (w : World) (hg : Glob w) (hs : s.size ≤ 1000000000) :
    Calls Tryz.prog 70 #[.string s, .string ⟨#[39]⟩, .string ⟨#[39, 39]⟩] w (StrQ (dupQ s.data.toList) w) := by
  obtain ⟨⟨m, hm⟩, _⟩ := hg
  have hc : Lib.countB s ⟨#[39]⟩ ≤ s.size := by
    show Lib.count s.data.toList [39] ≤ _
    rw [Lib.count_one]
    exact List.count_le_length
  refine (Tryz.strings_ReplaceAll s ⟨#[39]⟩ ⟨#[39, 39]⟩ m w (by omega) hm (by decide) (by show s.size + Lib.countB s ⟨#[39]⟩ * 2 ≤ _; omega)).mono ?_
  rintro e w' ⟨rfl, h⟩
  exact ⟨by rw [show (⟨#[39]⟩ : ByteArray).data.toList = [39] from rfl, show (⟨#[39, 39]⟩ : ByteArray).data.toList = [39, 39] from rfl, replaceAll_dup], Kept.of_below h⟩
theorem itoa_any (n : Int) (w : World) (hg : Glob w) (h0 : 0 ≤ n) (h1 : n ≤ 65536) : Calls Tryz.prog 57 #[.int .i64 n] w (StrQ (Lib.decDigits n.toNat) w) := by
  refine (Tryz.strconv_Itoa n (by omega) (by omega) w hg.2).mono ?_
  rintro e w' ⟨rfl, k, os, rfl⟩
  refine ⟨by unfold Lib.itoa; rw [if_neg (by omega)], ?_⟩
  refine ⟨rfl, rfl, rfl, ?_, fun j hj _ => ?_⟩
  · show w.heap.size ≤ (w.heap ++ os).size; simp
  · show (w.heap ++ os)[j]? = _; rw [Array.getElem?_append_left hj]
theorem app_str (a b : List UInt8) : (⟨a.toArray⟩ : ByteArray) ++ ⟨b.toArray⟩ = ⟨(a ++ b).toArray⟩ := by
  apply ByteArray.ext; simp [ByteArray.data_append]
theorem str39 : (⟨#[39]⟩ : ByteArray) = ⟨[39].toArray⟩ := rfl
set_option maxRecDepth 100000 in
theorem quote_any (s : ByteArray) (w : World) (hg : Glob w) (hs : s.size ≤ 100000) : Calls Tryz.prog 56 #[.string s] w (StrQ (quoteL s) w) := by
  have HG := Lib.hid hg; clear hg
  have hl := dupQ_len s.data.toList
  have el : s.data.toList.length = s.size := rfl
  go_enter Tryz.func56, Tryz.ntmps56
  go_wp2_with fail
  refine (replace_any s w HG.out (by omega)).mono ?_
  rintro e w1 ⟨rfl, K1⟩
  go_wp2_with fail
  go_ret
  have e : ((⟨#[39]⟩ : ByteArray) ++ ⟨(dupQ s.data.toList).toArray⟩ ++ ⟨#[39]⟩) = ⟨(quoteL s).toArray⟩ := by
    rw [str39, app_str, app_str]; simp [quoteL]
  exact ⟨congrArg (fun b => Ending.returned (.string b)) e, K1⟩
end Go.Proofs.YtcfcdobgpldoiaaGreatDoor
