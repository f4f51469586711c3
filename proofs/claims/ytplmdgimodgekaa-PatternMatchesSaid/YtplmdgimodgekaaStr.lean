/- Strings and the bytes they are of. -/
import Derived.Test.YtplmdgimodgekaaRd
namespace Go.Proofs.Ytplmdgimodgekaa
open Go.RowKit Go.Proofs.YtplmdgimodgekaaW.PrintWords Go.Proofs.YtplmdgimodgekaaW.PrintLast Go.Proofs.YtplmdgimodgekaaW.PrintMore
set_option linter.unusedVariables false
set_option linter.unusedSimpArgs false

theorem bt_k (s : ByteArray) (k : Nat) : ∀ h : k < s.size, ((s[k]'h).toNat : Int) = (bytesOf s).getD k 0 := by
  intro h
  have h' : k < s.data.toList.length := by rw [data_length]; exact h
  simp [bytesOf, List.getD_eq_getElem?_getD, List.getElem?_eq_getElem h']
  rfl
theorem bytesOf_isB (s : ByteArray) : isB (bytesOf s) := by
  intro x hx
  obtain ⟨b, _, rfl⟩ := List.mem_map.1 hx
  have := b.toNat_lt
  omega
theorem strOf_bytesOf (s : ByteArray) : strOfNums (bytesOf s) = s := by
  have : (bytesOf s).map (fun n => UInt8.ofNat n.toNat) = s.data.toList := by
    rw [bytesOf, List.map_map]
    conv => rhs; rw [← List.map_id s.data.toList]
    apply List.map_congr_left
    intro x _
    simp
  unfold strOfNums
  rw [this]
theorem bytesOf_strOf {l : List Int} (h : isB l) : bytesOf (strOfNums l) = l := by
  have hh : (strOfNums l).data.toList = l.map (fun n => UInt8.ofNat n.toNat) := rfl
  rw [bytesOf, hh, List.map_map]
  conv => rhs; rw [← List.map_id l]
  apply List.map_congr_left
  intro x hx
  have := h x hx
  simp
  omega
theorem strOf_append (a b : List Int) : strOfNums a ++ strOfNums b = strOfNums (a ++ b) := by
  have : (strOfNums a ++ strOfNums b).data.toList = (strOfNums (a ++ b)).data.toList := by
    simp [strOfNums]
  exact WideShapes.bytes_inj this
theorem str_eq_iff (s t : ByteArray) : (s.toList == t.toList) = decide (s = t) := by
  rw [ByteArray.toList_eq, ByteArray.toList_eq, Bool.eq_iff_iff, beq_iff_eq, decide_eq_true_iff]
  exact ⟨WideShapes.bytes_inj, fun h => by rw [h]⟩
end Go.Proofs.Ytplmdgimodgekaa
