/- Plain lemmas on texts as lists of bytes. No program in sight. -/
import Derived.Lib.Strings
import Derived.Lib.SmallJoins
namespace Go.Proofs.Ytnofenbhioepbaa.Bytes
open Go

theorem tl (s : ByteArray) : s.toList = s.data.toList := ByteArray.toList_eq s
theorem tl_inj {a b : ByteArray} (h : a.toList = b.toList) : a = b := by
  rw [tl, tl] at h
  exact Go.WideShapes.bytes_inj h
theorem tl_append (a b : ByteArray) : (a ++ b).toList = a.toList ++ b.toList := by
  rw [tl, tl, tl]
  exact Go.Joins.data_append a b
theorem tl_extract (s : ByteArray) (a b : Nat) : (s.extract a b).toList = (s.toList.drop a).take (b - a) := by
  rw [tl, tl]
  exact Go.Lib.extract_data s a b
theorem tl_length (s : ByteArray) : s.toList.length = s.size := by
  rw [tl]
  exact Array.length_toList
theorem tl_front (s : ByteArray) (n : Nat) : (s.extract 0 n).toList = s.toList.take n := by
  rw [tl_extract, List.drop_zero]
  rfl
theorem tl_back (s : ByteArray) (n : Nat) : (s.extract n s.size).toList = s.toList.drop n := by
  rw [tl_extract, List.take_of_length_le]
  rw [List.length_drop, tl_length]
  exact Nat.le_refl _
theorem size_front (s : ByteArray) (n : Nat) (h : n ≤ s.size) : (s.extract 0 n).size = n := by
  rw [← tl_length, tl_front, List.length_take, tl_length]
  omega
end Go.Proofs.Ytnofenbhioepbaa.Bytes
