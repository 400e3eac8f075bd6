/- Small laws on whole numbers that wrap, on strings as lists of bytes, and on answers that may be none. No condition. -/
import Derived.Test.YtfjidmppmleajaaDoorAMrow
import Derived.Lib.ItoaNum
import Derived.Lib.IndexMore
import Derived.Laws.BitsLemmas
namespace Go.Proofs.YtfjidmppmleajaaDoor
namespace AM
open Go
set_option linter.unusedSimpArgs false
set_option linter.unusedVariables false

theorem wrap_in {n : Int} (h1 : -9223372036854775808 ≤ n) (h2 : n ≤ 9223372036854775807) : IntKind.i64.wrap n = n := by
  rw [IntKind.wrap_i64]; omega
theorem wrap8_in {n : Int} (h1 : 0 ≤ n) (h2 : n ≤ 255) : IntKind.u8.wrap n = n := by
  have : IntKind.u8.wrap n = n % 256 := by rfl
  rw [this]; omega

/-- A string as the list of its bytes. -/
def ba (l : List UInt8) : ByteArray := ⟨l.toArray⟩
theorem ba_self (s : ByteArray) : ba s.data.toList = s := by cases s; rfl
theorem ba_append (a b : List UInt8) : ba a ++ ba b = ba (a ++ b) := by
  apply ByteArray.ext
  simp [ba]
theorem ba_size (l : List UInt8) : (ba l).size = l.length := by simp [ba, ByteArray.size]
theorem ba_inj {a b : List UInt8} (h : ba a = ba b) : a = b := by
  have := congrArg (fun s : ByteArray => s.data.toList) h
  simpa [ba] using this
theorem ba_data (l : List UInt8) : (ba l).data.toList = l := by simp [ba]
theorem size_data (s : ByteArray) : s.size = s.data.toList.length := rfl
theorem strRoom_of {a b : ByteArray} (h : a.size + b.size ≤ 4611686018427387904) : strRoom a b = true := decide_eq_true h
theorem strEq_self (a : ByteArray) : strEq a a = true := decide_eq_true rfl
theorem strEq_iff {a b : ByteArray} : strEq a b = true ↔ a = b := ⟨fun h => of_decide_eq_true h, fun h => decide_eq_true h⟩
theorem append_size (a b : ByteArray) : (a ++ b).size = a.size + b.size := by
  rw [← ba_self a, ← ba_self b, ba_append, ba_size, ba_size, ba_size, List.length_append]

theorem bt_eq {s : ByteArray} {i : Nat} (h : i < s.data.toList.length) : bt s (i : Int) = ((s.data.toList[i]).toNat : Int) := by
  unfold bt
  rw [Int.toNat_natCast, List.getD_eq_getElem?_getD, List.getElem?_eq_getElem h]; rfl
theorem u8_eq {x : UInt8} {n : Nat} (hn : n < 256) : ((x.toNat : Int) == (n : Int)) = decide (x = UInt8.ofNat n) := by
  rw [Bool.eq_iff_iff]
  simp only [beq_iff_eq, decide_eq_true_eq]
  constructor
  · intro h
    have : x.toNat = n := by omega
    rw [← this]; simp
  · intro h
    rw [h]
    simp; omega

theorem contains_byte (l : List UInt8) (c : UInt8) : Lib.contains l [c] = l.contains c := by
  unfold Lib.contains
  rw [Lib.index_one, Bool.eq_iff_iff]
  simp only [decide_eq_true_eq, List.contains_iff_mem]
  constructor
  · intro h
    obtain ⟨o, ho⟩ := Int.eq_ofNat_of_zero_le h
    have := (Lib.indexByte_some ho).1
    exact List.mem_of_getElem? this
  · intro h
    have hge := Lib.indexByte_ge l c
    by_cases q : Lib.indexByte l c = -1
    · obtain ⟨i, hi⟩ := List.getElem?_of_mem h
      exact absurd hi (Lib.indexByte_none q i)
    · omega
theorem ibeq (a b : Int) : (a == b) = decide (a = b) := by rw [Bool.eq_iff_iff]; simp
theorem ibne (a b : Int) : (a != b) = decide (a ≠ b) := by rw [Bool.eq_iff_iff]; simp
end AM
end Go.Proofs.YtfjidmppmleajaaDoor
